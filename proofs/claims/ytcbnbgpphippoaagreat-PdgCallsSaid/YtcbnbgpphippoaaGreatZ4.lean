/- pdgCalls.proved: for every input the law returns true. No condition. Part 4 of 7. -/
import Derived.Test.YtcbnbgpphippoaaGreatZ3
set_option maxRecDepth 1000000
set_option maxHeartbeats 8000000
set_option linter.unusedVariables false
set_option linter.unusedSimpArgs false
set_option linter.unnecessarySimpa false
set_option linter.defProp false
namespace Go.Proofs.YtcbnbgpphippoaaGreat
open Go Tryz
def H5:=zJ (zJ (zJ (zJ (zJ (zJ @bf3 @dh0) (zJ @dg3 @cW8)) (zJ (zJ @dg6 @dk3) (zJ @dg4 (zJ @dg5 @dk4)))) (zJ (zJ (zJ @dk0 @dd9) (zJ @dk1 (zJ @dk2 @cX9))) (zJ (zJ @cV4 @cY0) (zJ @cY1 (zJ @di7 @di6))))) (zJ (zJ (zJ (zJ @dk7 @do5) (zJ @dp1 (zJ @cW6 @dj6))) (zJ (zJ @cW7 @dj7) (zJ @dm8 (zJ @dp0 @cJ8)))) (zJ (zJ (zJ @db8 @cJ9) (zJ @db9 (zJ @dc0 @cT3))) (zJ (zJ @cO5 @cO4) (zJ @db7 (zJ @dn0 @dm9)))))) (zJ (zJ (zJ (zJ (zJ @cT2 @dn2) (zJ @dn1 (zJ @dj4 @cF0))) (zJ (zJ @da9 @dm4) (zJ @cJ6 (zJ @cW5 @cS8)))) (zJ (zJ (zJ @dl9 @dm5) (zJ @cW4 (zJ @dj3 @db1))) (zJ (zJ @dj2 @ev.eq_1) (zJ @ev.eq_2 (zJ @ev.eq_3 @ev.eq_4))))) (zJ (zJ (zJ (zJ @C4.eq_1 @C4.eq_2) (zJ @do2 (zJ @dm6 @dj8))) (zJ (zJ @dj9 @List.map_cons.{0,0}) (zJ @List.map_nil.{0,0} (zJ @List.map_toArray.{0,0} @bE1.eq_1)))) (zJ (zJ (zJ @bE1.eq_2 @cW1) (zJ @cv3.eq_1 (zJ @List.getElem?_toArray.{0} @List.getElem?_cons_zero.{0}))) (zJ (zJ @List.getElem?_cons_succ.{0} @Option.bind_some.{0,0}) (zJ @Option.some.injEq.{0} (zJ @dx4 @Bool.true_eq_false))))))
def zVB:=zJ (zJ (zJ (zJ @Option.map_some.{0,0} (zJ @Option.map_none.{0,0} @Int.toNat_zero)) (zJ (zJ @Option.isNone_none.{0} @Option.isNone_some.{0}) (zJ @K0 @bz7.eq_1))) (zJ (zJ @bz7.eq_2 (zJ @cG6.eq_1 @aZ0.eq_1)) (zJ (zJ @aZ0.eq_2 @cx3.eq_1) (zJ @cx2.eq_1 @TY)))) (zJ (zJ (zJ @Option.isSome_some.{0} (zJ @dy1 @Bool.and_true)) (zJ (zJ @dA7 @dt5) (zJ @dl6 @Int.cast_ofNat_Int))) (zJ (zJ @decide_true (zJ @add_lit @du4)) (zJ (zJ @Nat.zero_mul @Nat.one_mul) (zJ @Bool.not_true @Bool.not_false))))
theorem aY2{ws:List W}{i:Nat}(h:i<ws.length):ws[i]?=some (ws.getD i 0#64):=by simp[List.getD,h]
theorem cT6:E7 prog 275 220 1 8=true:=by kernel_rfl
theorem cK2(h:Hp)(v:Value)(ws:List W)(f:Nat)(w:World)(ho:B0 h w 220 v ws)(hf:f / 64<ws.length)(hf2:f<1000000000000):
  p7 prog 240 #[v,.int .i64 f] w fun u w'=>(u = .bool (!O1 ws f)∧B0 h w' 220 v (cm8 ws f)∧t8 (A4 v) w w'):=by
 refine p8 [v,.int .i64 f] func240 rfl ?_;have hin:=ho.inS hf;have hg:=aY2 hf;have hld:=D4 (P:=prog) (t:=220) ho hg ak0;simp only[I8.val]at hld;have q1:=by8 (P:=prog) (t:=3) f hf2;have q2:=cs4 (P:=prog) (t:=3) f;have hm:f % 64<64:=Nat.mod_lt _ (by decide);have hput:O1 ws f=(ws.getD (f / 64) 0#64).getLsbD (f % 64):=rfl;have hpb:cm8 ws f=ws.set (f / 64) (ws.getD (f / 64) 0#64 ||| (1#64 <<< (f % 64))):=rfl;rw[hput,hpb];generalize f / 64=i at *;generalize f % 64=k at *;generalize ws.getD i 0#64=x at *;have q3:=cs5 (P:=prog) (t:=220) x k hm;have q4:=cs1 (P:=prog) (t:=220) x k;have q5:=cR3 (P:=prog) (t:=220) (x.getLsbD k);have q6:=cR6 (P:=prog) (t:=220) k hm;have q7:=cs3 (P:=prog) (t:=220) x (1#64 <<< k);have hxd:=o7.drew w;obtain⟨w2,s1,s2,s3,s4⟩:=D9 (P:=prog) (t:=220) (ho.ext hxd) rfl (k:=i) hf (x:=.int .u64 (((x ||| 1#64 <<< k).toNat:Nat):Int)) (y:=(x ||| 1#64 <<< k)) rfl rfl (A0 az4).choose_spec.1 (by rw[←C5 (A0 az4).choose_spec.1];exact bC8);simp only[H5,zVB,z6,simprocAttr,q1,q2,q3,q4,q5,hin,hld];refine C0 (fun w3=>w3=w.drew) 8 (A9 [0,1,2,3,4,5,6,7]) ?_;simp only[D2,A9,H5,zVB,z6,simprocAttr,q1,hin];refine⟨.int .u64 (x.toNat:Nat),fun w3 e=>by subst e;exact D4 (ho.ext hxd) hg ak0,?_⟩;simp only[D2,H5,zVB,z6,simprocAttr,q2,q6,q7,hin,s1];refine o6 results240 ?_;simp only[p6,simprocAttr];exact⟨by trivial,s2,(hxd.weaken fun _ _ h=>h.elim).trans s3⟩
def Z4(ws:List W)(k:Nat):List Int:=((List.range k).filter (O1 ws)).map fun(i:Nat)=>(i:Int)
theorem bS6(ws:List W)(k:Nat):Z4 ws (k+1)=if O1 ws k then Z4 ws k++[(k:Int)]else Z4 ws k:=by
 unfold Z4;rw[dB9,dy3,du1];cases h:O1 ws k<;>simp[h]
theorem cl1(ws:List W)(k:Nat):(Z4 ws k).length≤k:=by
 unfold Z4;rw[dr9];exact dr7 (dt9 _ _) (by simp)
theorem cx0(v:Value)(ws:List W)(most:Nat)(w:World)(hv:R (i4 w) v ws)(hm1:most≤1000000)(hl:∀f,f<most→f / 64<ws.length):
  p7 prog 244 #[v,.int .i64 most] w fun u w'=>(B0 (i4 w) w' 3 u (Z4 ws most)∧o7 w w'):=by
 refine p8 [v,.int .i64 most] func244 rfl ?_;simp only[J7,O2,simprocAttr];refine n9 [0,1] (σ:=Nat) (fun k f w'=>f 6 = .int .i64 k∧k≤most∧B0 (i4 w) w' 3 (f 5) (Z4 ws k)∧o7 w w') (fun k=>most-k) 0 ?_ ?_
 ·simp only[p6,simprocAttr];exact⟨by first|rfl|trivial,dr8 _,B0.nil _ _ _,t8.refl _⟩
 ·rintro k f w' hk ⟨h6,hkl,ho,hx⟩;simp only[dq9,p6,simprocAttr]at hk;obtain⟨e0,e1,_⟩:=hk;simp only[J7,B6,E5,simprocAttr,h6,e1];refine m8 (fun hc=>?_) (fun hc=>?_)
  ·have hlt:k<most:=by simpa using hc
   have hkw:=hl k hlt;have hin:=hv.inS hkw;have hg:=aY2 hkw;have hld:=M8 (P:=prog) (t:=220) hv (b7 hx) hg ak0;simp only[I8.val]at hld;have q1:=by8 (P:=prog) (t:=3) k (by omega);have q2:=cs4 (P:=prog) (t:=3) k;have hmm:k % 64<64:=Nat.mod_lt _ (by decide);have hhas:O1 ws k=(ws.getD (k / 64) 0#64).getLsbD (k % 64):=rfl;have hls:=bS6 ws k;rw[hhas]at hls;generalize k / 64=i at *;generalize k % 64=b at *;generalize ws.getD i 0#64=x at *;have q3:=cs5 (P:=prog) (t:=220) x b hmm;have q4:=cs1 (P:=prog) (t:=220) x b;have q5:=cR4 (P:=prog) (t:=220) (x.getLsbD b);have q6:B6 prog .add 3 (.int .i64 k) (.int .i64 1)=some (.int .i64 ((k+1:Nat):Int)):=by
    simp only[B6,E5,dx1];rw[A8 k (by omega)]
   generalize x.getLsbD b=t at *;simp only[H5,zVB,z6,simprocAttr,q1,q2,q3,q4,q5,hin,hld,e0,h6];cases t
   ·simp only[H5,simprocAttr,h6,q6];refine⟨k+1,by omega,by trivial,by omega,?_,hx⟩;rw[hls,if_neg (by simp)];exact ho
   ·have hlen:=cl1 ws k;obtain⟨p1,u',w2,p2,p3,p4,p5⟩:=push (e:=112) ae1 rfl ho (x:=.int .i64 k) (y:=(k:Int)) rfl (by omega) (by omega) (b7 hx);simp only[Value.cells]at p1 p2;simp only[H5,simprocAttr,h6,q6,p1,p2];refine⟨k+1,by omega,by trivial,by omega,?_,ho.ext2 hx p4⟩;rw[hls,if_pos rfl];exact p3
  ·have hge:k=most:=by simp at hc;omega
   subst hge;simp only[J7,simprocAttr];refine o6 results244 ?_;simp only[p6,simprocAttr];exact⟨ho,hx⟩
def aA1(b c:List W)(k:Nat):List W:=(orB b c).take k++b.drop k
theorem bR6(b c:List W):aA1 b c 0=b:=by simp[aA1]
theorem ck0{b c:List W}(hl:b.length=c.length):aA1 b c b.length=orB b c:=by
 unfold aA1;rw[dA0,du2,dv8];rw[bB6 hl];exact ds5 _
theorem ck1{b c:List W}(hl:b.length=c.length)(k:Nat):(aA1 b c k).length=b.length:=by
 simp[aA1,orB,hl];omega
theorem cv4{b c:List W}(hl:b.length=c.length){k:Nat}(hk:k<b.length):(aA1 b c k)[k]?=some (b.getD k 0#64):=by
 unfold aA1;rw[dv7 (by simp[orB,hl];omega)];have:k-((orB b c).take k).length=0:=by simp[orB,hl];omega
 rw[this,dA8];simp[List.getD,hk]
theorem bR5{b c:List W}(hl:b.length=c.length){k:Nat}(hk:k<b.length):(aA1 b c k).set k (b.getD k 0#64 ||| c.getD k 0#64)=aA1 b c (k+1):=by
 have hol:(orB b c).length=b.length:=bB6 hl;apply dD7;intro i;rw[List.getElem?_set];unfold aA1;have hk1:((orB b c).take k).length=k:=by rw[ds3,hol];omega
 have hk2:((orB b c).take (k+1)).length=k+1:=by rw[ds3,hol];omega
 by_cases h1:k=i
 ·subst h1;rw[if_pos rfl,if_pos (by rw[dr1,hk1,dy7];omega),dw2 (by rw[hk2];omega),List.getElem?_take_of_lt (by omega),dq7 (by rw[hol];exact hk)];unfold orB;rw[List.getElem_zipWith];simp[List.getD,hk,show k<c.length by omega]
 ·rw[if_neg h1];by_cases h2:i<k
  ·rw[dw2 (by rw[hk1];exact h2),dw2 (by rw[hk2];omega),List.getElem?_take_of_lt h2,List.getElem?_take_of_lt (by omega)]
  ·rw[dv7 (by rw[hk1];omega),dv7 (by rw[hk2];omega),hk1,hk2,dA8,dA8]
   congr 1;omega
theorem bS8{b c:List W}(hl:b.length=c.length){k:Nat}(hk:k<b.length):ae9 (b.take (k+1)) (c.take (k+1))=(ae9 (b.take k) (c.take k)||((c.getD k 0#64 &&& ~~~(b.getD k 0#64):W) != 0#64)):=by
 unfold ae9;rw[dr6 hk,dr6 (show k<c.length by omega),List.zipWith_append (by simp;omega),List.any_append];simp[List.getD,hk,show k<c.length by omega]
theorem cw2(h:Hp)(v u:Value)(b c:List W)(w:World)(ho:B0 h w 220 v b)(hw:B5 h (i4 w))(hu:R h u c)(hl:b.length=c.length)(hlen:b.length≤1000000):
  p7 prog 243 #[v,u] w fun r w'=>(r = .bool (ae9 b c)∧B0 h w' 220 v (orB b c)∧t8 (A4 v) w w'):=by
 refine p8 [v,u] func243 rfl ?_;have hS:=ho.isS;have hvn:=ho.vlen;simp only[J7,O2,P9,simprocAttr,hS,hvn];refine n9 [0,1,6,7] (σ:=Nat) (fun k f w'=>f 8 = .int .i64 k∧k≤b.length∧f 4 = .bool (ae9 (b.take k) (c.take k))∧B0 h w' 220 v (aA1 b c k)∧t8 (A4 v) w w') (fun k=>b.length-k) 0 ?_ ?_
 ·simp only[p6,simprocAttr];exact⟨by first|rfl|trivial,dr8 _,by simp[ae9],by rw[bR6];exact ho,t8.refl _⟩
 ·rintro k f w' hk ⟨h8,hkl,h4,ho',hx⟩;simp only[dq9,p6,simprocAttr]at hk;obtain⟨e0,e1,e6,e7,_⟩:=hk;simp only[J7,B6,E5,simprocAttr,h8,e7];refine m8 (fun hc=>?_) (fun hc=>?_)
  ·have hlt:k<b.length:=by simpa using hc
   have hhl:=ck1 hl k;have hin:=ho'.inS (k:=k) (by omega);have hinc:=hu.inS (k:=k) (by omega);have hgb:=cv4 hl hlt;have hgc:=aY2 (show k<c.length by omega);have hsucc:=bR5 hl hlt;have hmt:=bS8 hl hlt;generalize b.getD k 0#64=x at *;generalize c.getD k 0#64=y at *;have hw':B5 h (i4 w'):=H9 hw hx fun b hb=>ho.free hb;have hd:=o7.drew w';have hdd:=o7.drew w'.drew;have hwd:B5 h (i4 w'.drew):=p9 hw' (b7 hd);have hwdd:B5 h (i4 w'.drew.drew):=p9 hwd (b7 hdd);have hod:=ho'.ext hd;have hodd:=hod.ext hdd;have q1:=br8 (P:=prog) (t:=220) y x;have q2:=cR5 (P:=prog) (t:=220) (y &&& ~~~x);have q3:=cs3 (P:=prog) (t:=220) x y;have q6:B6 prog .add 3 (.int .i64 k) (.int .i64 1)=some (.int .i64 ((k+1:Nat):Int)):=by
    simp only[B6,E5,dx1];rw[A8 k (by omega)]
   generalize hz:(y &&& ~~~x != 0#64)=z at *;obtain⟨w2,s1,s2,s3,s4⟩:=D9 (P:=prog) (t:=220) hodd rfl (k:=k) (by omega) (x:=.int .u64 (((x ||| y).toNat:Nat):Int)) (y:=(x ||| y)) rfl rfl (A0 az4).choose_spec.1 (by rw[←C5 (A0 az4).choose_spec.1];exact bC8);rw[hsucc]at s2;have hx2:t8 (A4 v) w w2:=(hx.trans ((hd.trans hdd).weaken fun _ _ h=>h.elim)).trans s3;generalize hm0:ae9 (b.take k) (c.take k)=m0 at *;cases m0
   ·simp only[H5,simprocAttr,h8];refine C0 (fun w3=>w3=w'.drew) 10 (A9 [0,1,2,3,4,5,6,7,8,9]) ?_;simp only[D2,A9,H5,zVB,z6,simprocAttr,h4,e1,hinc];refine⟨.int .u64 (y.toNat:Nat),fun w3 e=>by subst e;exact M8 (P:=prog) (t:=220) hu hwd hgc ak0,?_⟩;simp only[D2,H5,zVB,z6,simprocAttr,e0,hin];refine⟨.int .u64 (x.toNat:Nat),fun w3 e=>by subst e;exact D4 hod hgb ak0,?_⟩;simp only[D2,H5,simprocAttr,q1,q2];refine C0 (fun w3=>w3=w'.drew.drew) 8 (A9 [0,1,2,3,4,5,6,7]) ?_;simp only[D2,A9,H5,zVB,z6,simprocAttr,e0,hin];refine⟨.int .u64 (x.toNat:Nat),fun w3 e=>by subst e;exact D4 hodd hgb ak0,?_⟩;simp only[D2,H5,zVB,z6,simprocAttr,e1,hinc];refine⟨.int .u64 (y.toNat:Nat),fun w3 e=>by subst e;exact M8 (P:=prog) (t:=220) hu hwdd hgc ak0,?_⟩;simp only[D2,H5,zVB,z6,simprocAttr,q3,hin,s1,h8,q6];exact⟨k+1,by omega,by trivial,by omega,by rw[hmt];simp,s2,hx2⟩
   ·simp only[H5,simprocAttr,h8];refine C0 (fun w3=>w3=w'.drew) 10 (A9 [0,1,2,3,4,5,6,7,8,9]) ?_;simp only[D2,A9,H5,simprocAttr,h4];refine C0 (fun w3=>w3=w'.drew.drew) 8 (A9 [0,1,2,3,4,5,6,7]) ?_;simp only[D2,A9,H5,zVB,z6,simprocAttr,e0,hin];refine⟨.int .u64 (x.toNat:Nat),fun w3 e=>by subst e;exact D4 hodd hgb ak0,?_⟩;simp only[D2,H5,zVB,z6,simprocAttr,e1,hinc];refine⟨.int .u64 (y.toNat:Nat),fun w3 e=>by subst e;exact M8 (P:=prog) (t:=220) hu hwdd hgc ak0,?_⟩;simp only[D2,H5,zVB,z6,simprocAttr,q3,hin,s1,h8,q6];exact⟨k+1,by omega,by trivial,by omega,by rw[hmt];simp,s2,hx2⟩
  ·have hge:k=b.length:=by simp at hc;omega
   subst hge;rw[ck0 hl]at ho';rw[ds2,hl,ds2]at h4;simp only[J7,simprocAttr,h4];refine o6 results243 ?_;simp only[p6,simprocAttr];exact⟨by trivial,ho',hx⟩
def dx3:=@List.getElem?_set_self
theorem cP4:E7 prog 243 275 1 24=true:=by kernel_rfl
theorem K9.put{P:Program}{α:Type}[A3 α]{h:Hp}{w w1:World}{T T' t:TypeId}{v:Value}{us:List Z3}{xss:List (List α)}(hr:K9 h w T T' v us xss){i:Nat}{u:Z3}(hi:us[i]?=some u){u':Value}{xs:List α}
  (hm:t8 (A4 u.v) w w1) (ho:B0 h w1 T' u' xs) (hv:D7 w u.v u') {inf:TypeInfo} (hinf:P.info? t=some inf) (hs:inf.size=1) :
  ∃w2,(Instr.storeAt t (.pointer (some (H2 v i))) u').run P w1 = .ok () w2∧K9 h w2 T T' v (us.set i ⟨u'⟩) (xss.set i xs)∧t8 (A4 v) w1 w2∧w2.heap.size=w1.heap.size:=by
 have hS:=ho.isS;have hil:i<us.length:=(dr4.1 hi).1;have hou:B0 h w1 T v us:=hr.outer.mod hm fun b hb hb2=>hr.off i u hi b hb2 hb;obtain⟨w2,s1,s2,s3,s4⟩:=D9 (P:=P) (t:=t) hou rfl hil (x:=u') (y:=(⟨u'⟩:Z3)) ⟨rfl,W9 hS⟩ (D8 hS) hinf hs;exact⟨w2,s1,hr.set hi hm ho hv s3 s2,s3,s4⟩
theorem an5{α:Type}[A3 α]{h:Hp}{w:World}{T T':TypeId}{v:Value}{n:Nat}(ho:B0 h w T v (List.replicate n E1)):K9 h w T T' v (List.replicate n E1) (List.replicate n ([]:List α)):=by
 have hn:∀(i:Nat) (u:Z3),(List.replicate n E1)[i]?=some u→u=E1:=fun i u hu=>dx2 (ds9 hu);refine⟨ho,by simp,fun i u xs hu hx=>?_,fun i j u u' _ hu _ b hb=>?_,fun i u hu b hb=>?_⟩
 ·rw[hn i u hu,dx2 (ds9 hx)];exact B0.nil _ _ _
 ·rw[hn i u hu]at hb;exact absurd hb C6
 ·rw[hn i u hu]at hb;exact absurd hb C6
def cX4(most:Nat)(x:List Int)(b:List W):Prop:=b.length=most / 64+1∧∀f:Nat,O1 b f=true↔(f:Int)∈x
def aO6(l:List (List Int))(most:Nat):Prop:=∀x∈l,∀f∈x,0≤f∧f<most
def cp7(most:Nat)(l:List (List Int))(bss:List (List W)):Prop:=bss.length=l.length∧∀(i:Nat) (x:List Int),l[i]?=some x→∃b,bss[i]?=some b∧cX4 most x b
theorem bK9(v:Value)(l:List (List Int))(most:Nat)(w:World)(hv:R (i4 w) v l)(hm1:most≤1000000)(hl:l.length≤1000000)(hll:∀x∈l,x.length≤1000000000):
  p7 prog 197 #[v,.int .i64 most] w fun u w'=>((∃ub ok,u = .tuple #[ub,.bool ok]∧(ok=true→aO6 l most∧∃bss,R (i4 w') ub bss∧cp7 most l bss)∧(ok=false→¬aO6 l most))∧o7 w w'):=by
 refine p8 [v,.int .i64 most] func197 rfl ?_;have hS:=hv.isS;have hvn:=hv.vlen;have hz:A3.enc (i4 w) (Value.slice none 0 0).cells.toList E1:=⟨rfl,rfl⟩;obtain⟨u0,w0,hmk,ho0,hx0,hf0,_⟩:=mk (P:=prog) (w:=w) (h:=i4 w) cP4 aX8 (α:=Z3) (y:=E1) hz (n:=l.length) (by omega) (by omega) (d7 _);have hrows0:K9 (i4 w) w0 275 220 u0 (List.replicate l.length E1) (List.replicate l.length ([]:List W)):=an5 ho0;simp only[J7,O2,P9,simprocAttr,hS,hvn,hmk];refine n9 [0,1,6,14,15] (σ:=Nat) (fun i f w'=>f 16 = .int .i64 i∧i≤l.length∧(∃us bss,K9 (i4 w) w' 275 220 u0 us bss∧bss.length=l.length∧(∀(j:Nat) (x:List Int),j<i→l[j]?=some x→((∃b,bss[j]?=some b∧cX4 most x b)∧∀f∈x,0≤f∧f<most)))∧o7 w w') (fun i=>l.length-i) 0 ?_ ?_
 ·simp only[p6,simprocAttr];exact⟨by first|rfl|trivial,dr8 _,⟨_,_,hrows0,by simp,fun j x hj=>by omega⟩,hx0⟩
 ·rintro i f w' hk ⟨h16,hil,⟨us,bss,hrows,hbl,hdone⟩,hx⟩;simp only[dq9,p6,simprocAttr]at hk;obtain⟨e0,e1,e6,e14,e15,_⟩:=hk;simp only[J7,B6,E5,simprocAttr,h16,e15];refine m8 (fun hc=>?_) (fun hc=>?_)
  ·have hlt:i<l.length:=by simpa using hc
   have hin:=hv.inS hlt;obtain⟨ux,hux,hcx⟩:=hv.row (dq7 hlt);have hldx:=G1 (P:=prog) (t:=112) hcx (b7 hx) R0;have hxmem:l[i]∈l:=dr5 hlt;have hxat:l[i]?=some l[i]:=dq7 hlt;generalize l[i]=x at hux hxmem hxat;have hxl:=hll x hxmem;have hSx:=hux.isS;have hnx:=hux.vlen;have q1:=by8 (P:=prog) (t:=3) most (by omega);have q2:B6 prog .add 3 (.int .i64 ((most / 64:Nat):Int)) (.int .i64 1)=some (.int .i64 ((most / 64+1:Nat):Int)):=by
    simp only[B6,E5,dx1];rw[A8 _ (by omega)]
   obtain⟨ur,w1,hmk1,ho1,hx1,hf1,_⟩:=mk (P:=prog) (w:=w') (h:=i4 w) cT6 az4 (α:=W) (y:=0#64) rfl (n:=most / 64+1) (by omega) (by omega) (b7 hx);have husl:us.length=l.length:=by rw[hrows.len,hbl]
   have hui:us[i]?=some (us[i]'(by omega)):=dq7 _;generalize us[i]'(by omega)=u at hui;obtain⟨w2,s1,s2,s3,s4⟩:=hrows.put (P:=prog) (t:=275) hui (hx1.weaken fun _ _ h=>h.elim) ho1 (fun b hb=>.inr (hf1 b hb)) (A0 aX8).choose_spec.1 (by rw[←C5 (A0 aX8).choose_spec.1];exact bW4);have hx2:o7 w w2:=t8.ext_of (hx.trans hx1) s3 fun b hb=>by
    have:=hrows.outer.free hb;exact dE1 fun hlt=>by simp[i4,hlt]at this
   have hin0:=hrows.outer.inS (k:=i) (by omega);have huiset:(us.set i ⟨ur⟩)[i]?=some (⟨ur⟩:Z3):=dx3 (by omega);generalize hus':us.set i ⟨ur⟩=us' at *;generalize hm64:most / 64=m64 at *;simp only[H5,zVB,z6,P9,simprocAttr,h16,e14,e6,e1,hin,hldx,q1,q2,hmk1,hin0,s1,hSx,hnx];refine n9 [0,1,6,7,14,15,16,28,29] (σ:=Nat) (fun k f w'=>f 30 = .int .i64 k∧k≤x.length∧(∃bss' b,K9 (i4 w) w' 275 220 u0 us' bss'∧bss'.length=l.length∧(∀j:Nat,j≠i→bss'[j]?=bss[j]?)∧bss'[i]?=some b∧b.length=m64+1∧(∀f:Nat,O1 b f=true↔(f:Int)∈x.take k)∧∀f∈x.take k,0≤f∧f<most)∧o7 w w') (fun k=>x.length-k) 0 ?_ ?_
   ·simp only[p6,simprocAttr];refine⟨by first|rfl|trivial,dr8 _,⟨_,List.replicate (m64+1) 0#64,s2,by simp[hbl],fun j hj=>dz2 (fun e=>hj e.symm),dx3 (by omega),by simp,fun f=>by rw[bH2];simp,by simp⟩,hx2⟩
   ·rintro k f w3 hk ⟨h30,hkl,⟨bss',b,hrows',hbl',hoth,hbi,hblen,hbits,hrng⟩,hx3⟩;simp only[dq9,p6,simprocAttr]at hk;simp only[e0,e1,e6,e14,e15,h16]at hk;obtain⟨i0,i1,i6,i7,i14,i15,i16,i28,i29,_⟩:=hk;simp only[J7,B6,E5,simprocAttr,h30,i29];refine m8 (fun hc=>?_) (fun hc=>?_)
    ·have hkt:k<x.length:=by simpa using hc
     have hink:=hux.inS hkt;have hldk:=M8 (P:=prog) (t:=3) hux (b7 hx3) (dq7 hkt) F3;simp only[I8.val]at hldk;have hmemk:x[k]∈x:=dr5 hkt;have htk:x.take (k+1)=x.take k++[x[k]]:=dr6 hkt;generalize x[k]=ft at hldk hmemk htk;by_cases hlo:ft<0
     ·have d0:decide (ft<0)=true:=by simpa using hlo
      simp only[J7,O2,B6,E5,z6,simprocAttr,h30,i28,hink,hldk,d0];refine af0 results197 ?_;simp only[p6,simprocAttr];exact⟨⟨_,false,rfl,(fun h=>(by cases h)),(fun _ hf=>(by have:=hf x hxmem ft hmemk;omega))⟩,hx3⟩
     ·have d0:decide (ft<0)=false:=by simpa using hlo
      by_cases hhi:ft≥most
      ·have d1:decide (ft≥(most:Int))=true:=by simpa using hhi
       simp only[J7,O2,B6,E5,z6,simprocAttr,h30,i28,i1,hink,hldk,d0,d1];refine af0 results197 ?_;simp only[p6,simprocAttr];exact⟨⟨_,false,rfl,(fun h=>(by cases h)),(fun _ hf=>(by have:=hf x hxmem ft hmemk;omega))⟩,hx3⟩
      ·have d1:decide (ft≥(most:Int))=false:=by simpa using hhi
       obtain⟨fn,hfn⟩:∃fn:Nat,ft=fn:=⟨ft.toNat,by omega⟩;have hin3:=hrows'.outer.inS (k:=i) (by rw[hrows'.len];omega);have hld3:=aI2 (P:=prog) (t:=275) hrows' huiset aX5;have hob:=hrows'.row i ⟨ur⟩ b huiset hbi
       have hfw:fn / 64<b.length:=by rw[hblen];have:fn<most:=by omega
                                     have:=Nat.div_le_div_right (c:=64) (Nat.le_of_lt this);omega
       have hput:=cK2 (i4 w) ur b fn w3 hob hfw (by omega);rw[←hfn]at hput;simp only[J7,O2,B6,E5,z6,simprocAttr,h30,i28,i1,i6,i7,hink,hldk,d0,d1,hin3,hld3];refine z7 hput ?_;rintro r w4 ⟨hr,ho4,hm4⟩;have hx4:o7 w w4:=t8.ext_of hx3 hm4 fun b hb=>by
        have:=hob.free hb;exact dE1 fun hlt=>by simp[i4,hlt]at this
       have hrows4:=hrows'.write huiset hm4 ho4;simp only[J7,B6,E5,simprocAttr,h30];refine⟨k+1,by omega,by rw[A8 k (by omega)],by omega,⟨_,_,hrows4,by simp[hbl'],fun j hj=>?_,dx3 (by omega),by rw[cz3,hblen],fun f=>?_,fun f hf=>?_⟩,hx4⟩
       ·rw[dz2 (fun e=>hj e.symm)];exact hoth j hj
       ·rw[cv5 hfw,htk,dD2,hbits f,ds4,dt8,du7];constructor
        ·rintro(h|h)
         ·exact .inr (by rw[h,hfn])
         ·exact .inl h
        ·rintro(h|h)
         ·exact .inr h
         ·exact .inl (by omega)
       ·rw[htk,ds4,dt8]at hf;rcases hf with hf|hf
        ·exact hrng f hf
        ·subst hf;exact⟨by omega,by omega⟩
    ·have hge:k=x.length:=by simp at hc;omega
     subst hge;rw[ds2]at hbits hrng;simp only[J7,B6,E5,simprocAttr,i16];refine⟨i+1,by omega,by rw[A8 i (by omega)],by omega,⟨us',bss',hrows',hbl',fun j y hj hy=>?_⟩,hx3⟩;by_cases hji:j=i
     ·subst hji;rw[hxat]at hy;obtain rfl:=ds8 hy;exact⟨⟨b,hbi,by rw[hblen,hm64],hbits⟩,hrng⟩
     ·obtain⟨⟨b',hb1,hb2⟩,h3⟩:=hdone j y (by omega) hy;exact⟨⟨b',by rw[hoth j hji];exact hb1,hb2⟩,h3⟩
  ·have hge:i=l.length:=by simp at hc;omega
   subst hge;simp only[J7,simprocAttr,e6];refine af0 results197 ?_;simp only[p6,simprocAttr];refine⟨⟨_,true,rfl,fun _=>⟨fun x hx f hf=>?_,bss,hrows.ro (b7 hx),hbl,fun i x hi=>?_⟩,(fun h=>(by cases h))⟩,hx⟩
   ·obtain⟨j,hj⟩:=dB7.1 hx;exact(hdone j x (dr4.1 hj).1 hj).2 f hf
   ·exact(hdone i x (dr4.1 hi).1 hi).1
theorem aQ0(n:Nat)(l:List (Int×Int)):(al8 n l).length=n:=by simp[al8]
theorem bJ0{n:Nat}(l:List (Int×Int)){q:Nat}(hq:q<n):(al8 n l)[q]?=some ((l.filter fun t=>decide (t.1=(q:Int))).map (·.2)):=by simp[al8,hq]
theorem bJ1(n:Nat):al8 n []=List.replicate n []:=by
 apply dy6
 ·simp[al8]
 ·intro j h1 h2;simp[al8]
theorem bv0{n:Nat}(l:List (Int×Int)){q:Nat}(hq:q<n)(b:Int):al8 n (l++[((q:Int),b)])=(al8 n l).set q (((l.filter fun t=>decide (t.1=(q:Int))).map (·.2))++[b]):=by
 apply dy6
 ·simp[al8]
 ·intro j h1 h2;rw[List.getElem_set];simp only[al8,dA2,dE4,dy3,du1];by_cases hjq:q=j
  ·subst hjq;simp[]
  ·rw[if_neg hjq];have:decide ((q:Int)=(j:Int))=false:=by simp;omega
   simp[this]
theorem ax7(l:List (Int×Int))(q:Nat):((l.filter fun t=>decide (t.1=(q:Int))).map (·.2)).length≤l.length:=by
 rw[dr9];exact dt9 _ _
theorem aQ1{n:Nat}{l:List (Int×Int)}{x:List Int}(hx:x∈al8 n l):x.length≤l.length∧∀b∈x,∃t∈l,t.2=b:=by
 obtain⟨q,_,rfl⟩:=dt7.1 hx;refine⟨ax7 l q,fun b hb=>?_⟩;obtain⟨t,ht,rfl⟩:=dt7.1 hb;exact⟨t,(dv2.1 ht).1,rfl⟩
theorem bl4{P:Program}{h:Hp}{w:World}{T t:TypeId}{v:Value}{us:List Z3}(ho:B0 h w T v us){i:Nat}{u:Z3}(hi:us[i]?=some u)(ht:H6 P t=false):
  (Instr.loadAt t (.pointer (some (H2 v i)))).run P w = .ok u.v w:=by
 obtain⟨es,⟨he,_⟩,hc⟩:=ho.get hi;have:=hc 0 u.v (by rw[he];rfl);rw[K0]at this;have h1:(i*A3.sz Z3)=i:=dA7 i;rw[h1]at this;exact R8 ht this
theorem bg9{p:Pg}{i x y:Nat}{wy:Wy}(hr:E8 p)(hw:D1 p≤1000000)(hi:i<p.procs.length)(hok:ao2 p i x y wy):∀t∈wy.pairs wy.data,(0≤t.1∧t.1<wy.n)∧(0≤t.2∧t.2<wy.n):=aQ4 hok.toWyOk (bz2 hr hw hi hok)
theorem bK0{v u':Value}{us:List Z3}{i b:Nat}(h:L3 v (us.set i ⟨u'⟩) b):L3 v us b∨A4 u' b:=by
 rcases h with h|⟨u,hu,hb⟩
 ·exact .inl (.inl h)
 ·rcases dz1 hu with h|rfl
  ·exact .inl (.inr ⟨u,h,hb⟩)
  ·exact .inr hb
theorem cF3(a:Addr)(wy:Wy)(p:Pg)(i x y:Nat)(w:World)(ha:At (i4 w) a wy)(hr:E8 p)(hw:D1 p≤1000000)(hi:i<p.procs.length)(hok:ao2 p i x y wy):
  p7 prog 130 #[.pointer (some a)] w fun u w'=>(R (i4 w') u wy.net∧o7 w w'):=by
 refine p8 [.pointer (some a)] func130 rfl ?_;obtain⟨_,_,_,_,_,_,ldw,_⟩:=ha.wy;have lw:=ldw w (d7 _);have h200:=G9 hr.may;have hlen:=hok.part.ok.len;have hle':=hok.part.ok.le;have hn:=hok.n;have hdl:=aO3 hr hw hi hok;have hdr:=bz2 hr hw hi hok;have hpr:=bg9 hr hw hi hok;have hnn:wy.n=((wy.n.toNat:Nat):Int):=by omega
 have hpl:(wy.pairs wy.data).length=wy.data.length:=dr9 _;have hF:wy.net=al8 wy.n.toNat (wy.pairs wy.data):=rfl;generalize hM:wy.n.toNat=M at hF hnn;have hz:A3.enc (i4 w) (Value.slice none 0 0).cells.toList E1:=⟨rfl,rfl⟩;obtain⟨vo,w1,hmk,ho1,hx1,hfr1,_⟩:=mk (P:=prog) (w:=w) (h:=i4 w) bU6 T7 (α:=Z3) (y:=E1) hz (n:=M) (by omega) (by omega) (d7 _);rw[←hnn]at hmk;have hr1:K9 (i4 w) w1 112 3 vo (List.replicate M E1) (al8 M []):=by rw[bJ1];exact an5 ho1
 simp only[i5,n8,simprocAttr,lw,hmk];refine z7 (bD5 a wy p i x y w1 (ha.mono (b7 hx1)) hr hw hi hok) ?_;rintro ud w2 ⟨hod,hx2⟩;simp only[i5,simprocAttr];refine z7 (am5 a wy p i x y ud _ w2 (ha.mono (b7 (hx1.trans hx2))) hok.toWyOk (hod.rw_ (b7 hx2)) hdr (by omega)) ?_;rintro uq w3 ⟨hoq,hx3⟩;have hr3:=hr1.ext (hx2.trans hx3);have hlt3:∀b,L3 vo (List.replicate M E1) b→b<w2.heap.size:=fun b hb=>(hr1.ext hx2).lt hb;generalize wy.pairs wy.data=ps at hoq hF hpr hpl;have huq:R (B7 w3 (L3 vo (List.replicate M E1))) uq ps:=hoq.flatRN fun b hb=>D3 fun hbu=>by
  have h1:=hlt3 b hbu;have h2:=D0 (hoq.free hb);omega
 have hx03:=hx1.trans (hx2.trans hx3);have hSq:=huq.isS;have hnq:=huq.vlen;simp only[i5,n8,simprocAttr,hSq,hnq];refine n9 [0,3,14,15] (σ:=Nat×List Z3) (fun s f w'=>f 16 = .int .i64 s.1∧s.1≤ps.length∧K9 (i4 w) w' 112 3 vo s.2 (al8 M (ps.take s.1))∧t8 (L3 vo (List.replicate M E1)) w3 w'∧(∀b,L3 vo s.2 b→L3 vo (List.replicate M E1) b∨w3.heap.size≤b)) (fun s=>ps.length-s.1) (0,List.replicate M E1) ?_ ?_
 ·simp only[p6,simprocAttr];exact⟨by trivial,dr8 _,by simpa using hr3,t8.refl _,fun b hb=>.inl hb⟩
 rintro⟨k,us⟩ f w4 hk ⟨h16,hkl,hr4,hm4,hmv4⟩;simp only at h16 hkl hr4 hmv4;simp only[dq9,p6,simprocAttr]at hk;obtain⟨e0,e3,e14,e15,_⟩:=hk;have hx04:o7 w w4:=t8.ext_of hx03 hm4 fun b hb=>D0 (hr3.free hb);simp only[i5,n8,simprocAttr,h16,e15];refine m8 (fun hc=>?_) (fun hc=>?_);rotate_left
 ·have hge:k=ps.length:=by simp at hc;omega
  subst hge;rw[ds2]at hr4;simp only[i5,simprocAttr,e3];refine o6 results130 ?_;simp only[p6,simprocAttr];exact⟨by rw[hF];exact hr4.ro (b7 hx04),hx04⟩
 have hlt:k<ps.length:=by simpa using hc
 have hin:=huq.inS hlt;have hld:=cw7 huq (C8 hm4) (dq7 hlt);have htk:=dr6 hlt;obtain⟨hq1,hq2⟩:=hpr _ (dr5 hlt);generalize ps[k]=t at hld htk hq1 hq2;obtain⟨z1,z2⟩:=t;simp only at hq1 hq2 hld;obtain⟨Q,rfl⟩:∃Q:Nat,z1=(Q:Int):=⟨z1.toNat,by omega⟩;have hQ:Q<M:=by omega
 obtain⟨c,wz,w5,hal,hst5,hx5,hh5,hge5⟩:=cD7 (w:=w4) (Q:Int) z2;have hr5:=hr4.ext (hx5.trans (o7.drew w5));have hul:us.length=M:=by rw[hr4.len,aQ0]
 obtain⟨u,hu⟩:∃u,us[Q]?=some u:=⟨us[Q]'(by omega),dq7 (by omega)⟩;have hrow:=hr5.row Q u _ hu (bJ0 _ hQ);have hrl:=ax7 (ps.take k) Q;rw[ds3]at hrl;have hcw:¬A4 u.v c:=fun hb=>by
  have:=hr4.lt (.inr ⟨u,ds9 hu,hb⟩);omega
 have hcd:w5.drew.heap[c]?=some (.cells #[.int .i64 (Q:Int),.int .i64 z2] 128 (0,0)):=hh5;have t0:∀K f d w0,I1 prog (fun w'=>t8 (A4 u.v) w5.drew w') (Instr.loadAt 3 (.pointer (some ⟨c,0,none⟩))) K f d w0=K (C4 f d (.int .i64 (Q:Int))) w0:=fun K f d w0=>D5 (w0:=w5.drew) (t8.refl _) fun w' h=>(am2 hcd h hcw).1;have t1:∀K f d w0,I1 prog (fun w'=>t8 (A4 u.v) w5.drew w') (Instr.loadAt 3 (.pointer (some ⟨c,1,none⟩))) K f d w0=K (C4 f d (.int .i64 z2)) w0:=fun K f d w0=>D5 (w0:=w5.drew) (t8.refl _) fun w' h=>(am2 hcd h hcw).2;have t2:∀K f d w0,I1 prog (fun w'=>t8 (A4 u.v) w5.drew w') (Instr.loadAt 112 (.pointer (some (H2 vo Q)))) K f d w0=K (C4 f d u.v) w0:=fun K f d w0=>D5 (w0:=w5.drew) (t8.refl _) fun w' h=>bl4 (hr5.outer.mod h fun b hb hb2=>hr5.off Q u hu b hb2 hb) hu R0;have hSo:=hr5.outer.isS;have hinr:=hr5.outer.inS (k:=Q) (by omega);have hx05:=hx04.trans (hx5.trans (o7.drew w5));obtain⟨p1,u6,w6,p2,p3,p4,p5⟩:=push (e:=112) ae1 rfl hrow (x:=.int .i64 z2) (y:=z2) rfl (by omega) (by omega) (b7 hx05);simp only[Value.cells]at p1 p2;obtain⟨w7,s1,hr7,hm7,_⟩:=hr5.put (P:=prog) (t:=112) hu p4 p3 p5 (A0 T7).choose_spec.1 (by rw[←C5 (A0 T7).choose_spec.1];exact aF5);simp only[i5,n8,z6,simprocAttr,h16,e14,hin,hld,hal,hst5];refine C0 (fun w'=>t8 (A4 u.v) w5.drew w') 12 (A9 [0,1,2,3,4,5,6,7,8,9,10,11]) ?_;simp only[D2,A9,i5,n8,z6,simprocAttr,e3,t0,t1,t2,hinr,p1,p2,F1];refine⟨t8.up (o7.alloc _ _),p4,?_⟩;simp only[i5,n8,simprocAttr,s1,h16];have hrb:∀b,A4 u.v b→L3 vo us b:=fun b hb=>.inr ⟨u,ds9 hu,hb⟩;have hsz3:w3.heap.size≤w5.drew.heap.size:=dr7 hm4.size ((hx5.trans (o7.drew w5)).size);refine⟨(k+1,us.set Q ⟨u6⟩),by simp only[];omega,by simp only[];rw[A8 k (by omega)],by simp only[];omega,?_,?_,fun b hb=>?_⟩
 ·simp only[];rw[htk,bv0 _ hQ];exact hr7
 ·refine(hm4.chain (t8.up (M:=fun _=>False) (hx5.trans (o7.drew w5))) fun _ _ h=>h.elim).chain (t8.trans (M:=fun b=>A4 u.v b∨A4 vo b) (p4.weaken fun b _ h=>.inl h) (hm7.weaken fun b _ h=>.inr h)) (fun b hb h=>?_);rcases h with h|h
  ·exact(hmv4 b (hrb b h)).resolve_right (by omega)
  ·exact .inl h
 ·rcases bK0 hb with h|h
  ·exact hmv4 b h
  ·rcases p5 b h with h|h
   ·exact hmv4 b (hrb b h)
   ·exact .inr (by omega)
def dz8:=@List.getElem?_range
def bp6(r:List Bool):Nat:=r.count true
def aU0(f:List (List Bool)):Nat:=(f.map bp6).sum
theorem bZ6:∀(r s:List Bool),s.length=r.length→(∀i,s.getD i false=true→r.getD i false=true)→bp6 s≤bp6 r∧(s≠r→bp6 s<bp6 r)
 | [],[],_,_=>by simp[bp6]
 | x::r,y::s,hl,h=>by
  have ih:=bZ6 r s (by simpa using hl) fun i hi=>by have:=h (i+1);simpa using this (by simpa using hi)
  have h0:=h 0;simp only[List.getD_cons_zero]at h0;unfold bp6 at ih ⊢;simp only[List.count_cons];cases x<;>cases y<;>simp_all
  all_goals omega
theorem bE9:∀(f:List (List Bool)) (a:Nat) (l:List Bool) (ha:a<f.length),aU0 (f.set a l)+bp6 f[a]=aU0 f+bp6 l
 | x::f,0,l,_=>by simp[aU0];omega
 | x::f,a+1,l,ha=>by
  have:=bE9 f a l (by simpa using ha);simp only[aU0,List.set_cons_succ,dv6,dB6,dB5]at *;omega
structure SqM (n:Nat) (f:List (List Bool)):Prop where
 len:f.length=n
 row:∀r∈f,r.length=n
theorem SqM.get{n:Nat}{f:List (List Bool)}(h:SqM n f){a:Nat}(ha:a<n):f[a]?=some (f.getD a [])∧(f.getD a []).length=n:=by
 have:a<f.length:=by rw[h.len];exact ha
 rw[List.getD,dq7 this];exact⟨rfl,h.row _ (dr5 this)⟩
def mAt(f:List (List Bool))(a b:Nat):Bool:=(f.getD a []).getD b false
theorem ac7(f:List (List Bool))(l:List Int):(X5 f l).length=f.length:=by simp[X5]
theorem bm2{n:Nat}{f:List (List Bool)}(h:SqM n f)(l:List Int){b:Nat}(hb:b<n):(X5 f l).getD b false=l.all fun a=>mAt f a.toNat b:=by
 unfold X5;rw[List.getD,du5,dz8 (by rw[h.len];exact hb)];simp only[dx7,dw8];unfold atB mAt;simp
def V6(next:List (List Int))(f:List (List Bool))(a:Nat):List Bool:=(X5 f (next.getD a [])).set a true
theorem ay4(next:List (List Int))(f:List (List Bool))(a:Nat):(V6 next f a).length=f.length:=by simp[V6,ac7]
theorem aW2{n:Nat}{next:List (List Int)}{f:List (List Bool)}(h:SqM n f){a b:Nat}(ha:a<n):(V6 next f a).getD b false=(decide (b<n)&&(decide (a=b)||(next.getD a []).all fun c=>mAt f c.toNat b)):=by
 unfold V6;by_cases hb:b<n
 ·by_cases hab:a=b
  ·subst hab;rw[List.getD,dx3 (by rw[ac7,h.len];exact hb)];simp[hb]
  ·rw[List.getD,dz2 hab];have:=bm2 h (next.getD a []) hb;rw[List.getD]at this;rw[this];simp[hb,hab]
 ·rw[List.getD,dy9 (by rw[dy4,ac7,h.len];omega)];simp[hb]
def co9(n:Nat)(next:List (List Int))(f:List (List Bool)):Prop:=∀a,a+1<n→∀b,(V6 next f a).getD b false=true→mAt f a b=true
theorem af8(n:Nat):SqM n (R7 n):=⟨by simp[R7],fun r hr=>by
 obtain⟨a,_,rfl⟩:=dt7.1 hr;simp⟩
theorem bi3{n a b:Nat}(ha:a<n)(hb:b<n):mAt (R7 n) a b=(decide (a+1<n)||decide (a=b)):=by
 have h1:(R7 n).getD a []=(List.range n).map fun b=>decide (a+1<n)||decide (a=b):=by
  unfold R7;rw[List.getD,du5,dz8 ha];rfl
 unfold mAt;rw[h1,List.getD,du5,dz8 hb];rfl
theorem bG6(n:Nat)(next:List (List Int)):co9 n next (R7 n):=by
 intro a ha b hb;rw[aW2 (af8 n) (by omega)]at hb;have:b<n:=by
  rw[dt0]at hb;exact dr0 hb.1
 rw[bi3 (by omega) this];simp[ha]
theorem bZ5(n:Nat):∀(f:List (List Bool)),(∀r∈f,r.length=n)→aU0 f≤f.length*n
 | [],_=>by simp[aU0]
 | r::f,h=>by
  have ih:=bZ5 n f fun s hs=>h s (by simp[hs]);have h1:bp6 r≤n:=by
   have:=List.count_le_length (a:=true) (l:=r);rw[h r (by simp)]at this;exact this
  simp only[aU0,dv6,dB6,dt2]at *;rw[dC1];omega
theorem aR7{α:Type}{f:List α}{a:Nat}{l d:α}(c:Nat)(ha:a<f.length):(f.set a l).getD c d=if a=c then l else f.getD c d:=by
 by_cases h:a=c
 ·subst h;simp[List.getD,ha]
 ·rw[if_neg h,List.getD,List.getD,dz2 h]
theorem bK8{α:Type}{f:List α}{a:Nat}{l:α}(h:f[a]?=some l):f.set a l=f:=by
 apply dD7;intro i;by_cases hi:a=i
 ·subst hi;rw[dx3 (dr4.1 h).1,h]
 ·rw[dz2 hi]
theorem bV3{n:Nat}{next:List (List Int)}{f:List (List Bool)}(hs:SqM n f)(hd:co9 n next f){a:Nat}(ha:a+1<n):
  SqM n (Q9 next f a)∧co9 n next (Q9 next f a)∧(V6 next f a=f.getD a []→Q9 next f a=f)∧(V6 next f a≠f.getD a []→aU0 (Q9 next f a)<aU0 f):=by
 have hal:a<f.length:=by rw[hs.len];omega
 have e:Q9 next f a=f.set a (V6 next f a):=rfl
 rw[e];obtain⟨hg,hgl⟩:=hs.get (a:=a) (by omega);have hsq:SqM n (f.set a (V6 next f a)):=⟨by rw[dy4,hs.len],fun r hr=>by
  rcases dz1 hr with h|h
  ·exact hs.row r h
  ·rw[h,ay4,hs.len]⟩
 have B5:∀c b,mAt (f.set a (V6 next f a)) c b=true→mAt f c b=true:=by
  intro c b h;unfold mAt at h ⊢;rw[aR7 c hal]at h;split at h
  ·next hac=>subst hac;exact hd a ha b h
  ·exact h
 have hm:=bE9 f a (V6 next f a) hal;have hfa:f[a]=f.getD a []:=by rw[List.getD,dq7 hal];rfl
 obtain⟨_,hlt⟩:=bZ6 (f.getD a []) (V6 next f a) (by rw[ay4,hs.len,hgl]) fun b hb=>hd a ha b hb;refine⟨hsq,?_,fun h=>by rw[h];exact bK8 hg,fun h=>by have:=hlt h;rw[hfa]at hm;omega⟩;intro c hc b h;rw[aW2 hsq (by omega)]at h;have h':(V6 next f c).getD b false=true:=by
  rw[aW2 hs (by omega)];rw[dt0,dD2]at h ⊢;refine⟨h.1,h.2.imp id fun h2=>?_⟩;rw[dx6]at h2 ⊢;exact fun x hx=>B5 _ _ (h2 x hx)
 unfold mAt;rw[aR7 c hal];split
 ·next hac=>subst hac;exact h'
 ·exact hd c hc b h'
theorem aO8{next:List (List Int)}{m:Nat}{f:List (List Bool)}(h:M3 next f m=f):∀k,Z9 next m k f=f
 | 0=>rfl
 | k+1=>by rw[Z9,h,aO8 h k]
theorem aD6(next:List (List Int))(m:Nat):∀(j k:Nat) (f:List (List Bool)),Z9 next m (j+k) f=Z9 next m k (Z9 next m j f)
 | 0,k,f=>by rw[du4];rfl
 | j+1,k,f=>by rw[show j+1+k=(j+k)+1 by omega,Z9,Z9,aD6 next m j k]
theorem ah9{α:Type}{l:List α}{d x:α}{n b:Nat}(hl:l.length=n)(hb:b<n)(hx:l[b]?=some x):(l.take b++List.replicate (n-b) d).set b x=l.take (b+1)++List.replicate (n-(b+1)) d:=by
 have h1:(l.take b).length=b:=by rw[ds3];omega
 rw[List.set_append_right _ _ (by omega),h1,Nat.sub_self,show n-b=(n-(b+1))+1 by omega,List.replicate_succ,List.set_cons_zero,dD4,hx];simp
theorem aS5{P:Program}{t:TypeId}{z:Value}(hz:G0 P t=some z)(hs:K1 P t=1):∃i,P.info? t=some i∧i.size=1:=by
 obtain⟨i,h1,h2⟩:=A0 hz;exact⟨i,h1,by rw[←C5 h1];exact hs⟩
theorem bU3(vf vs:Value)(n:Nat)(fm:List (List Bool))(l:List Int)(w:World)(hf:R (i4 w) vf fm)(hs:R (i4 w) vs l)(hq:SqM n fm)(hl:∀c∈l,0≤c∧c<(n:Int))(hn:n≤1000000)(hll:l.length≤1000000000):
  p7 prog 167 #[vf,vs] w fun u w'=>(B0 (i4 w) w' 4 u (X5 fm l)∧o7 w w'):=by
 refine p8 [vf,vs] func167 rfl ?_;have hSf:=hf.isS;have hnf:=hf.vlen;rw[hq.len]at hnf;have hSs:=hs.isS;have hns:=hs.vlen;obtain⟨ib,hib,hib1⟩:=aS5 (P:=prog) U1 aF6;obtain⟨vo,w1,hmk,ho,hx1,_,_⟩:=mk (P:=prog) (w:=w) (h:=i4 w) (α:=Bool) bq9 U1 (y:=false) rfl (n:=n) (by omega) (by omega) (d7 _);have hSo:=ho.isS;have hno:vlen vo=n:=by rw[ho.vlen,dv9]
 have hsl:(X5 fm l).length=n:=by rw[ac7,hq.len]
 simp only[i5,n8,simprocAttr,hSf,hnf,hmk,hSo,hno];refine n9 [0,1,5,13] (σ:=Nat) (fun b f w'=>f 14 = .int .i64 b∧b≤n∧B0 (i4 w) w' 4 vo ((X5 fm l).take b++List.replicate (n-b) false)∧o7 w w') (fun b=>n-b) 0 ?_ ?_
 ·simp only[p6,simprocAttr];exact⟨by trivial,dr8 _,by simpa using ho,hx1⟩
 rintro b f w2 hk ⟨h14,hbl,ho2,hx2⟩;simp only[dq9,p6,simprocAttr]at hk;obtain⟨e0,e1,e5,e13,_⟩:=hk;simp only[i5,n8,simprocAttr,h14,e13];refine m8 (fun hc=>?_) (fun hc=>?_);rotate_left
 ·have hge:b=n:=by simp at hc;omega
  subst hge;rw[Nat.sub_self,List.replicate_zero,du2,←hsl,ds2]at ho2;simp only[i5,simprocAttr,e5];refine o6 results167 ?_;simp only[p6,simprocAttr];exact⟨ho2,hx2⟩
 have hlt:b<n:=by simpa using hc
 have hnext:=ah9 (d:=false) hsl hlt (dq7 (by omega));have hat:(X5 fm l)[b]'(by omega)=l.all fun a=>mAt fm a.toNat b:=by
  have:=bm2 hq l hlt;rw[List.getD,dq7 (by omega)]at this;exact this
 rw[hat]at hnext;have hX:((X5 fm l).take b++List.replicate (n-b) false).length=n:=by rw[dr1,ds3,dv9];omega
 generalize(X5 fm l).take b++List.replicate (n-b) false=X at ho2 hnext hX;have hin:=ho2.inS (k:=b) (by omega);obtain⟨w3,s1,ho3,hm3,_⟩:=D9 (P:=prog) (t:=4) ho2 rfl (k:=b) (by omega) (x:=.bool true) (y:=true) rfl rfl hib hib1;have hx3:=ho2.ext2 hx2 hm3;simp only[i5,n8,z6,simprocAttr,h14,e1,e5,hin,s1,hSs,hns];refine n9 [0,1,5,6,13,14,20,21] (σ:=Nat) (fun k f w'=>f 22 = .int .i64 k∧k≤l.length∧B0 (i4 w) w' 4 vo (X.set b ((l.take k).all fun a=>mAt fm a.toNat b))∧o7 w w') (fun k=>l.length-k) 0 ?_ ?_
 ·simp only[p6,simprocAttr];exact⟨by trivial,dr8 _,by simpa using ho3,hx3⟩
 rintro k f2 w4 hk ⟨h22,hkl,ho4,hx4⟩;simp only[dq9,p6,simprocAttr]at hk;obtain⟨r0,r1,r5,r6,r13,r14,r20,r21,_⟩:=hk;rw[e0]at r0;rw[e5]at r5;rw[e13]at r13;rw[h14]at r14;simp only[i5,n8,simprocAttr,h22,r21];refine m8 (fun hc2=>?_) (fun hc2=>?_);rotate_left
 ·have hge:k=l.length:=by simp at hc2;omega
  subst hge;rw[ds2,hnext]at ho4;simp only[i5,n8,simprocAttr,r14];refine⟨b+1,by omega,by rw[A8 b (by omega)],by omega,ho4,hx4⟩
 have hlt2:k<l.length:=by simpa using hc2
 have hin2:=hs.inS hlt2;have hld:=aJ6 hs (b7 hx4) hlt2;have hcr:=hl _ (dr5 hlt2);have htk:=dr6 hlt2;generalize l[k]=c at hld hcr htk;obtain⟨C,rfl⟩:∃C:Nat,c=(C:Int):=⟨c.toNat,by omega⟩;obtain⟨hg,hgl⟩:=hq.get (a:=C) (by omega);obtain⟨uc,huc,hcc⟩:=R.row hf hg;have hld2:=G1 (P:=prog) (t:=149) hcc (b7 hx4) aj9;have hinf:=hf.inS (k:=C) (by rw[hq.len];omega);have hinc:=huc.inS (k:=b) (by omega);have hld3:=ldB huc (b7 hx4) (k:=b) (by omega);have hmv:(fm.getD C [])[b]'(by omega)=mAt fm C b:=by
  have hh:∀r:List Bool,∀h:b<r.length,r[b]=r.getD b false:=fun r h=>by simp[List.getD,h]
  exact hh _ _
 rw[hmv]at hld3;have hino:=ho4.inS (k:=b) (by rw[dy4];omega);have hldo:=D4 (P:=prog) (t:=4) ho4 (k:=b) (dx3 (by omega)) ak1;have hstep:(l.take (k+1)).all (fun a=>mAt fm a.toNat b)=((l.take k).all (fun a=>mAt fm a.toNat b)&&mAt fm C b):=by
  rw[htk,List.all_append];simp
 obtain⟨w5,s2,ho5,hm5,_⟩:=D9 (P:=prog) (t:=4) ho4 rfl (k:=b) (by rw[dy4];omega) (x:=.bool ((l.take (k+1)).all (fun a=>mAt fm a.toNat b))) (y:=(l.take (k+1)).all (fun a=>mAt fm a.toNat b)) rfl rfl hib hib1;rw[List.set_set]at ho5;have hx5:=ho4.ext2 hx4 hm5;have hldo':(Instr.loadAt 4 (.pointer (some (H2 vo b)))).run prog w4 = .ok (.bool ((l.take k).all fun a=>mAt fm a.toNat b)) w4:=hldo;generalize hVe:(l.take (k+1)).all (fun a=>mAt fm a.toNat b)=V' at hstep s2 ho5;generalize(l.take k).all (fun a=>mAt fm a.toNat b)=V at hldo' hstep;generalize mAt fm C b=m at hld3 hstep;rcases dq8 V with hV|hV<;>subst hV
 ·have:V'=m:=by simpa using hstep
  subst this;simp only[i5,n8,z6,simprocAttr,h22,r0,r5,r6,r20,hin2,hld,hino,hldo',hinf,hld2,hinc,hld3,s2];refine⟨k+1,by omega,by rw[A8 k (by omega)],by omega,by rw[hVe];exact ho5,hx5⟩
 ·have:V'=false:=by simpa using hstep
  subst this;simp only[i5,n8,z6,simprocAttr,h22,r5,r6,r20,hin2,hld,hino,hldo',s2];refine⟨k+1,by omega,by rw[A8 k (by omega)],by omega,by rw[hVe];exact ho5,hx5⟩
theorem cP1:E7 prog 166 149 1 24=true:=by decide +kernel
theorem bY0{p:Pg}{i x y:Nat}{wy:Wy}(hr:E8 p)(hw:D1 p≤1000000)(hi:i<p.procs.length)(hok:ao2 p i x y wy):wy.aug.length≤2000000:=by
 have hF:wy.aug=ar0 (wy.virtual++wy.real++[⟨0,-1,2⟩]++((b9 p).of i).flatMap U7):=by unfold Wy.aug;rw[hok.s,hok.proc]
 have h1:=bD1 hr hw hi hok;have h2:=(bb2 p hw i hi).2;have h3:=S1 U7 1 ((b9 p).of i) fun x _=>bj4 x;rw[hF];refine dr7 (aM8 _) ?_;simp only[dr1,du0];omega
theorem bY1{p:Pg}{i x y:Nat}{wy:Wy}(hr:E8 p)(hw:D1 p≤1000000)(hi:i<p.procs.length)(hok:ao2 p i x y wy):∀t∈wy.aug,RgS x y t:=by
 have hF:wy.aug=ar0 (wy.virtual++wy.real++[⟨0,-1,2⟩]++((b9 p).of i).flatMap U7):=by unfold Wy.aug;rw[hok.s,hok.proc]
 intro t ht;rw[hF]at ht;exact cq5 hr hw hi hok t (aM9 ht)
theorem bO1(a:Addr)(wy:Wy)(p:Pg)(i x y:Nat)(w:World)(ha:At (i4 w) a wy)(hr:E8 p)(hw:D1 p≤1000000)(hi:i<p.procs.length)(hok:ao2 p i x y wy):
  p7 prog 106 #[.pointer (some a)] w fun u w'=>(R (i4 w') u wy.follow∧o7 w w'):=by
 refine p8 [.pointer (some a)] func106 rfl ?_;obtain⟨_,_,_,_,_,_,ldw,sdw⟩:=ha.wy;have lw:=ldw w (d7 _);have h200:=G9 hr.may;have hlen:=hok.part.ok.len;have hle':=hok.part.ok.le;have hn:=hok.n;have hdl:=bY0 hr hw hi hok;have hdr:=bY1 hr hw hi hok;have hpr:=aQ4 hok.toWyOk hdr;have hnn:wy.n=((wy.n.toNat:Nat):Int):=by omega
 have hpl:(wy.pairs wy.aug).length=wy.aug.length:=dr9 _;have hF:wy.follow=Z9 (al8 wy.n.toNat (wy.pairs wy.aug)) (wy.n.toNat-1) (wy.n.toNat*wy.n.toNat+1) (R7 wy.n.toNat):=rfl;have hM200:wy.n.toNat≤202:=by omega
 have hM2:2≤wy.n.toNat:=by omega
 generalize hM:wy.n.toNat=M at hF hnn hM200 hM2;have hz:A3.enc (i4 w) (Value.slice none 0 0).cells.toList E1:=⟨rfl,rfl⟩;obtain⟨vo,w1,hmk,ho1,hx1,hfr1,_⟩:=mk (P:=prog) (w:=w) (h:=i4 w) bU6 T7 (α:=Z3) (y:=E1) hz (n:=M) (by omega) (by omega) (d7 _);rw[←hnn]at hmk;have hr1:K9 (i4 w) w1 112 3 vo (List.replicate M E1) (al8 M []):=by rw[bJ1];exact an5 ho1
 simp only[i5,n8,simprocAttr,lw,hmk];refine z7 (bX2 a wy p i x y w1 (ha.mono (b7 hx1)) hr hw hi hok) ?_;rintro ud w2 ⟨hod,hx2⟩;simp only[i5,simprocAttr];refine z7 (am5 a wy p i x y ud _ w2 (ha.mono (b7 (hx1.trans hx2))) hok.toWyOk (hod.rw_ (b7 hx2)) hdr (by omega)) ?_;rintro uq w3 ⟨hoq,hx3⟩;have hr3:=hr1.ext (hx2.trans hx3);have hlt3:∀b,L3 vo (List.replicate M E1) b→b<w2.heap.size:=fun b hb=>(hr1.ext hx2).lt hb;generalize wy.pairs wy.aug=ps at hoq hF hpr hpl;have huq:R (B7 w3 (L3 vo (List.replicate M E1))) uq ps:=hoq.flatRN fun b hb=>D3 fun hbu=>by
  have h1:=hlt3 b hbu;have h2:=D0 (hoq.free hb);omega
 have hx03:=hx1.trans (hx2.trans hx3);have hSq:=huq.isS;have hnq:=huq.vlen;simp only[i5,n8,simprocAttr,hSq,hnq];refine n9 [0,3,20,21] (σ:=Nat×List Z3) (fun s f w'=>f 22 = .int .i64 s.1∧s.1≤ps.length∧K9 (i4 w) w' 112 3 vo s.2 (al8 M (ps.take s.1))∧t8 (L3 vo (List.replicate M E1)) w3 w'∧(∀b,L3 vo s.2 b→L3 vo (List.replicate M E1) b∨w3.heap.size≤b)) (fun s=>ps.length-s.1) (0,List.replicate M E1) ?_ ?_
 ·simp only[p6,simprocAttr];exact⟨by trivial,dr8 _,by simpa using hr3,t8.refl _,fun b hb=>.inl hb⟩
 rintro⟨k,us⟩ f w4 hk ⟨h22,hkl,hr4,hm4,hmv4⟩;simp only at h22 hkl hr4 hmv4;simp only[dq9,p6,simprocAttr]at hk;obtain⟨e0,e3,e20,e21,_⟩:=hk;have hx04:o7 w w4:=t8.ext_of hx03 hm4 fun b hb=>D0 (hr3.free hb);simp only[i5,n8,simprocAttr,h22,e21];refine m8 (fun hc=>?_) (fun hc=>?_)
 ·have hlt:k<ps.length:=by simpa using hc
  have hin:=huq.inS hlt;have hld:=cw7 huq (C8 hm4) (dq7 hlt);have htk:=dr6 hlt;obtain⟨hq1,hq2⟩:=hpr _ (dr5 hlt);generalize ps[k]=t at hld htk hq1 hq2;obtain⟨z1,z2⟩:=t;simp only at hq1 hq2 hld;obtain⟨Q,rfl⟩:∃Q:Nat,z1=(Q:Int):=⟨z1.toNat,by omega⟩;have hQ:Q<M:=by omega
  obtain⟨c,wz,w5,hal,hst5,hx5,hh5,hge5⟩:=cD7 (w:=w4) (Q:Int) z2;have hr5:=hr4.ext (hx5.trans (o7.drew w5));have hul:us.length=M:=by rw[hr4.len,aQ0]
  obtain⟨u,hu⟩:∃u,us[Q]?=some u:=⟨us[Q]'(by omega),dq7 (by omega)⟩;have hrow:=hr5.row Q u _ hu (bJ0 _ hQ);have hrl:=ax7 (ps.take k) Q;rw[ds3]at hrl;have hcw:¬A4 u.v c:=fun hb=>by
   have:=hr4.lt (.inr ⟨u,ds9 hu,hb⟩);omega
  have hcd:w5.drew.heap[c]?=some (.cells #[.int .i64 (Q:Int),.int .i64 z2] 128 (0,0)):=hh5;have t0:∀K f d w0,I1 prog (fun w'=>t8 (A4 u.v) w5.drew w') (Instr.loadAt 3 (.pointer (some ⟨c,0,none⟩))) K f d w0=K (C4 f d (.int .i64 (Q:Int))) w0:=fun K f d w0=>D5 (w0:=w5.drew) (t8.refl _) fun w' h=>(am2 hcd h hcw).1;have t1:∀K f d w0,I1 prog (fun w'=>t8 (A4 u.v) w5.drew w') (Instr.loadAt 3 (.pointer (some ⟨c,1,none⟩))) K f d w0=K (C4 f d (.int .i64 z2)) w0:=fun K f d w0=>D5 (w0:=w5.drew) (t8.refl _) fun w' h=>(am2 hcd h hcw).2;have t2:∀K f d w0,I1 prog (fun w'=>t8 (A4 u.v) w5.drew w') (Instr.loadAt 112 (.pointer (some (H2 vo Q)))) K f d w0=K (C4 f d u.v) w0:=fun K f d w0=>D5 (w0:=w5.drew) (t8.refl _) fun w' h=>bl4 (hr5.outer.mod h fun b hb hb2=>hr5.off Q u hu b hb2 hb) hu R0;have hSo:=hr5.outer.isS;have hinr:=hr5.outer.inS (k:=Q) (by omega);have hx05:=hx04.trans (hx5.trans (o7.drew w5));obtain⟨p1,u6,w6,p2,p3,p4,p5⟩:=push (e:=112) ae1 rfl hrow (x:=.int .i64 z2) (y:=z2) rfl (by omega) (by omega) (b7 hx05);simp only[Value.cells]at p1 p2;obtain⟨w7,s1,hr7,hm7,_⟩:=hr5.put (P:=prog) (t:=112) hu p4 p3 p5 (A0 T7).choose_spec.1 (by rw[←C5 (A0 T7).choose_spec.1];exact aF5);simp only[i5,n8,z6,simprocAttr,h22,e20,hin,hld,hal,hst5];refine C0 (fun w'=>t8 (A4 u.v) w5.drew w') 12 (A9 [0,1,2,3,4,5,6,7,8,9,10,11]) ?_;simp only[D2,A9,i5,n8,z6,simprocAttr,e3,t0,t1,t2,hinr,p1,p2,F1];refine⟨t8.up (o7.alloc _ _),p4,?_⟩;simp only[i5,n8,simprocAttr,s1,h22];have hrb:∀b,A4 u.v b→L3 vo us b:=fun b hb=>.inr ⟨u,ds9 hu,hb⟩;have hsz3:w3.heap.size≤w5.drew.heap.size:=dr7 hm4.size ((hx5.trans (o7.drew w5)).size);refine⟨(k+1,us.set Q ⟨u6⟩),by simp only[];omega,by simp only[];rw[A8 k (by omega)],by simp only[];omega,?_,?_,fun b hb=>?_⟩
  ·simp only[];rw[htk,bv0 _ hQ];exact hr7
  ·refine(hm4.chain (t8.up (M:=fun _=>False) (hx5.trans (o7.drew w5))) fun _ _ h=>h.elim).chain (t8.trans (M:=fun b=>A4 u.v b∨A4 vo b) (p4.weaken fun b _ h=>.inl h) (hm7.weaken fun b _ h=>.inr h)) (fun b hb h=>?_);rcases h with h|h
   ·exact(hmv4 b (hrb b h)).resolve_right (by omega)
   ·exact .inl h
  ·rcases bK0 hb with h|h
   ·exact hmv4 b h
   ·rcases p5 b h with h|h
    ·exact hmv4 b (hrb b h)
    ·exact .inr (by omega)
 have hge:k=ps.length:=by simp at hc;omega
 subst hge;rw[ds2]at hr4;have hnx:=hr4.ro (b7 hx04);have hxk:∀a∈al8 M ps,∀b∈a,0≤b∧b<(M:Int):=fun a ha b hb=>by
  obtain⟨t,ht,rfl⟩:=(aQ1 ha).2 b hb;have:=(hpr t ht).2;omega
 have hnl:∀a∈al8 M ps,a.length≤2000000:=fun a ha=>by have:=(aQ1 ha).1;omega
 have hnxl:=aQ0 M ps;generalize al8 M ps=nx at hnx hxk hnl hnxl hF;clear hr4 hm4 hmv4 huq hoq hr3 hr1 ho1 hmk hod hlt3 hx3 hx2 hx1 hpr hpl hdr hdl;clear lw hkl hSq hnq hfr1;have lw:=ldw w4 (b7 hx04);have hz4:A3.enc (i4 w4) (Value.slice none 0 0).cells.toList E1:=⟨rfl,rfl⟩;obtain⟨vf,w5,hmk,ho5,hx5,_,_⟩:=mk (P:=prog) (w:=w4) (h:=i4 w4) cP1 aX6 (α:=Z3) (y:=E1) hz4 (n:=M) (by omega) (by omega) (d7 _);rw[←hnn]at hmk;have hr5:=an5 (α:=Bool) (T':=4) ho5;have hSf:=ho5.isS;have hnf:vlen vf=M:=by rw[ho5.vlen,dv9]
 simp only[i5,n8,simprocAttr,e0,lw,hmk,hSf,hnf];obtain⟨ib,hib,hib1⟩:=aS5 (P:=prog) U1 aF6;obtain⟨ibb,hibb,hibb1⟩:=aS5 (P:=prog) aX6 bC7;have hfl:(R7 M).length=M:=(af8 M).len;refine n9 [0,3,6,46] (σ:=Nat×List Z3) (fun s f w'=>f 47 = .int .i64 s.1∧s.1≤M∧K9 (i4 w4) w' 149 4 vf s.2 ((R7 M).take s.1++List.replicate (M-s.1) [])∧o7 w4 w') (fun s=>M-s.1) (0,List.replicate M E1) ?_ ?_
 ·simp only[p6,simprocAttr];exact⟨by trivial,dr8 _,by simpa using hr5,hx5⟩
 rintro⟨k2,us2⟩ f2 w6 hk ⟨h47,hk2,hr6,hx6⟩;simp only at h47 hk2 hr6;simp only[dq9,p6,simprocAttr]at hk;obtain⟨g0,g3,g6,g46,_⟩:=hk;rw[e0]at g0;rw[e3]at g3;have lw6:=ldw w6 (b7 (hx04.trans hx6));simp only[i5,n8,simprocAttr,h47,g46];refine m8 (fun hc2=>?_) (fun hc2=>?_)
 ·have hlt:k2<M:=by simpa using hc2
  obtain⟨vr,w7,hmk2,hor,hx7,hfr7,_⟩:=mk (P:=prog) (w:=w6) (h:=i4 w4) (α:=Bool) bq9 U1 (y:=false) rfl (n:=M) (by omega) (by omega) (b7 hx6);rw[←hnn]at hmk2;have hul:us2.length=M:=by rw[hr6.len,dr1,ds3,dv9];omega
  obtain⟨u,hu⟩:∃u,us2[k2]?=some u:=⟨us2[k2]'(by omega),dq7 (by omega)⟩;have hin:=hr6.outer.inS (k:=k2) (by omega);obtain⟨w8,s1,hr8,hm8,_⟩:=hr6.put (P:=prog) (t:=149) hu (t8.up hx7) hor (fun b hb=>.inr (hfr7 b hb)) hibb hibb1;have hx8:o7 w4 w8:=(hr6.outer.ext hx7).ext2 (hx6.trans hx7) hm8;have hsr:(us2.set k2 ⟨vr⟩)[k2]?=some ⟨vr⟩:=dx3 (by omega);have hldr:=bl4 (P:=prog) (t:=149) hr8.outer hsr aj9;have hSr:=hor.isS;have hnr:vlen vr=M:=by rw[hor.vlen,dv9]
  obtain⟨rk,hrk⟩:∃r,(R7 M)[k2]?=some r:=⟨_,dq7 (by omega)⟩;have hrl:rk.length=M:=(af8 M).row rk (ds9 hrk);have hrat:∀b (hb:b<M),rk[b]?=some (decide (k2+1<M)||decide (k2=b)):=fun b hb=>by
   have:=bi3 hlt hb;unfold mAt at this;rw[List.getD,List.getD,hrk,dw8,dq7 (by omega)]at this;rw[dq7 (by omega)];exact ds7 some this
  have hnext:=ah9 (d:=([]:List Bool)) hfl hlt hrk;have hXl:((R7 M).take k2++List.replicate (M-k2) ([]:List Bool)).length=M:=by rw[dr1,ds3,dv9];omega
  generalize(R7 M).take k2++List.replicate (M-k2) ([]:List Bool)=X at hr6 hr8 hnext hXl;generalize hU:us2.set k2 ⟨vr⟩=U at hr8 hsr;have hin8:=hr8.outer.inS (k:=k2) (dr4.1 hsr).1;simp only[i5,n8,z6,simprocAttr,h47,g0,g6,lw6,hmk2,hin,s1,hldr,hSr,hnr];refine n9 [0,3,6,7,46,47,62] (σ:=Nat) (fun b f w'=>f 63 = .int .i64 b∧b≤M∧K9 (i4 w4) w' 149 4 vf U (X.set k2 (rk.take b++List.replicate (M-b) false))∧o7 w4 w') (fun b=>M-b) 0 ?_ ?_
  ·simp only[p6,simprocAttr];exact⟨by trivial,dr8 _,by simpa using hr8,hx8⟩
  rintro b f3 w9 hk ⟨h63,hbl,hr9,hx9⟩;simp only[dq9,p6,simprocAttr]at hk;obtain⟨q0,q3,q6,q7,q46,q47,q62,_⟩:=hk;rw[g0]at q0;rw[g3]at q3;rw[g6]at q6;rw[h47]at q47;rw[g46]at q46;simp only[i5,n8,simprocAttr,h63,q62];refine m8 (fun hc3=>?_) (fun hc3=>?_);rotate_left
  ·have hge:b=M:=by simp at hc3;omega
   subst hge;rw[Nat.sub_self,List.replicate_zero,du2,←hrl,ds2,hnext]at hr9;simp only[i5,n8,simprocAttr,q47];refine⟨(k2+1,U),by simp only[];omega,by simp only[];rw[A8 k2 (by omega)],by simp only[];omega,hr9,hx9⟩
  have hlt3:b<M:=by simpa using hc3
  have hnb:=ah9 (d:=false) hrl hlt3 (hrat b hlt3);have hRl:(rk.take b++List.replicate (M-b) false).length=M:=by rw[dr1,ds3,dv9];omega
  generalize rk.take b++List.replicate (M-b) false=r at hr9 hnb hRl;have hrow:=(hr9.ext (o7.drew w9)).row k2 _ r hsr (dx3 (by omega));simp only at hrow;have hinb:=hrow.inS (k:=b) (by omega);have hwn:IntKind.i64.wrap (wy.n-1)=((M-1:Nat):Int):=by rw[K6 _ (by omega)];omega
  have sw:=sdw (fun w'=>o7 w9.drew w') w9.drew (t8.refl _) fun w' h=>b7 (hx04.trans (hx9.trans ((o7.drew w9).trans h)));have tr:∀K f d w0,I1 prog (fun w'=>o7 w9.drew w') (Instr.loadAt 149 (.pointer (some (H2 vf k2)))) K f d w0=K (C4 f d vr) w0:=fun K f d w0=>D5 (w0:=w9.drew) (t8.refl _) fun w' h=>bl4 (hr9.outer.ext ((o7.drew w9).trans h)) hsr aj9;have hin9:=hr9.outer.inS (k:=k2) (dr4.1 hsr).1;have hV:(decide (k2+1<M)||decide (k2=b))=(decide ((k2:Int)<((M-1:Nat):Int))||decide ((k2:Int)=(b:Int))):=by
   congr 1
   ·rw[dv1];omega
   ·rw[dv1];omega
  rw[hV]at hnb;have hst:=fun V:Bool=>D9 (P:=prog) (t:=4) hrow rfl (k:=b) (by omega) (x:=.bool V) (y:=V) rfl rfl hib hib1;rcases dq8 (decide ((k2:Int)<((M-1:Nat):Int)))with hq|hq
  ·rw[hq,dD0]at hnb;obtain⟨w10,s2,ho10,hm10,_⟩:=hst true;have hr10:=(hr9.ext (o7.drew w9)).write hsr hm10 ho10;rw[List.set_set,hnb]at hr10;have hx10:o7 w4 w10:=hrow.ext2 (hx9.trans (o7.drew w9)) hm10;simp only[i5,simprocAttr,h63];refine C0 (fun w'=>o7 w9.drew w') 17 (A9 [0,1,2,3,4,5,6,7,8,9,10,11,12,13,14,15,16]) ?_;simp only[D2,A9,i5,n8,z6,simprocAttr,q0,q6,q7,sw,tr,hin9,hwn,hq];simp only[i5,n8,simprocAttr,hinb,s2,h63];refine⟨b+1,by omega,by rw[A8 b (by omega)],by omega,hr10,hx10⟩
  ·rw[hq,dC4]at hnb;obtain⟨w10,s2,ho10,hm10,_⟩:=hst (decide ((k2:Int)=(b:Int)));have hr10:=(hr9.ext (o7.drew w9)).write hsr hm10 ho10;rw[List.set_set,hnb]at hr10;have hx10:o7 w4 w10:=hrow.ext2 (hx9.trans (o7.drew w9)) hm10;simp only[i5,simprocAttr,h63];refine C0 (fun w'=>o7 w9.drew w') 17 (A9 [0,1,2,3,4,5,6,7,8,9,10,11,12,13,14,15,16]) ?_;simp only[D2,A9,i5,n8,z6,simprocAttr,q0,q6,q7,sw,tr,hin9,hwn,hq];simp only[i5,n8,simprocAttr,hinb,s2,h63];refine⟨b+1,by omega,by rw[A8 b (by omega)],by omega,hr10,hx10⟩
 have hge2:k2=M:=by simp at hc2;omega
 subst hge2;rw[Nat.sub_self,List.replicate_zero,du2]at hr6;rw[dv8 (by rw[hfl];exact ds5 _)]at hr6;have hr0:=hr6;have hx0:=hx6;generalize us2=us0 at hr0;simp only[i5,simprocAttr];refine n9 [0,3,6] (σ:=(Nat×List Z3)×(List (List Bool)×Bool)) (fun s f w'=>f 9 = .bool s.2.2∧K9 (i4 w4) w' 149 4 vf s.1.2 s.2.1∧o7 w4 w'∧s.2.1=Z9 nx (k2-1) s.1.1 (R7 k2)∧SqM k2 s.2.1∧co9 k2 nx s.2.1∧aU0 s.2.1+s.1.1≤k2*k2∧(s.2.2=false→M3 nx s.2.1 (k2-1)=s.2.1)) (fun s=>if s.2.2 then aU0 s.2.1+1 else 0) ((0,us0),(R7 k2,true)) ?_ ?_
 ·simp only[p6,simprocAttr];refine⟨by trivial,hr0,hx0,rfl,af8 _,bG6 _ _,?_,fun h=>by cases h⟩;have:=bZ5 k2 (R7 k2) (af8 k2).row;rw[hfl]at this;simpa using this
 rintro⟨⟨K,us7⟩,fm,tu⟩ f7 w7 hk ⟨h9,hr7,hx7,hfm,hsq,hdec,hcn,hfix⟩;simp only at h9 hr7 hfm hsq hdec hcn hfix;simp only[dq9,p6,simprocAttr]at hk;obtain⟨j0,j3,j6,_⟩:=hk;rw[g0]at j0;rw[g3]at j3;rw[g6]at j6;have lw7:=ldw w7 (b7 (hx04.trans hx7));simp only[i5,simprocAttr,h9];refine m8 (fun ht=>?_) (fun ht=>?_);rotate_left
 ·have hfx:=hfix ht;have hres:wy.follow=fm:=by
   rw[hF,show k2*k2+1=K+(k2*k2+1-K) by omega,aD6,←hfm,aO8 hfx]
  simp only[i5,simprocAttr,j6];refine o6 results106 ?_;simp only[p6,simprocAttr];exact⟨by rw[hres];exact hr7.ro (b7 hx7),hx04.trans hx7⟩
 subst ht;have hw2:IntKind.i64.wrap (wy.n-2)=((k2-1:Nat):Int)-1:=by rw[K6 _ (by omega)];omega
 simp only[i5,n8,simprocAttr,j0,lw7,hw2];refine n9 [0,3,6] (σ:=(Nat×List Z3)×(List (List Bool)×Bool)) (fun s f w'=>f 10 = .int .i64 ((s.1.1:Int)-1)∧s.1.1+1≤k2∧f 9 = .bool s.2.2∧K9 (i4 w4) w' 149 4 vf s.1.2 s.2.1∧o7 w4 w'∧M3 nx s.2.1 s.1.1=M3 nx fm (k2-1)∧SqM k2 s.2.1∧co9 k2 nx s.2.1∧(s.2.2=false→s.2.1=fm)∧(s.2.2=true→aU0 s.2.1<aU0 fm)) (fun s=>s.1.1) ((k2-1,us7),(fm,false)) ?_ ?_
 ·simp only[p6,simprocAttr];exact⟨by trivial,by omega,by trivial,hr7,hx7,by trivial,hsq,hdec,fun _=>by trivial,fun h=>by cases h⟩
 rintro⟨⟨J,us8⟩,gm,tv⟩ f8 w8 hk ⟨h10,hJ,h9',hr8,hx8,hrd,hsq8,hdec8,hf8,ht8⟩;simp only at h10 hJ h9' hr8 hrd hsq8 hdec8 hf8 ht8;simp only[dq9,p6,simprocAttr]at hk;obtain⟨m0,m3,m6,_⟩:=hk;rw[j0]at m0;rw[j3]at m3;rw[j6]at m6;simp only[i5,n8,simprocAttr,h10];refine m8 (fun hc4=>?_) (fun hc4=>?_);rotate_left
 ·have hJ0:J=0:=by simp at hc4;omega
  subst hJ0;have hrd':gm=M3 nx fm (k2-1):=hrd;cases tv with
  | false=>
   have e:=hf8 rfl;have hfx:M3 nx fm (k2-1)=fm:=by rw[←hrd'];exact e
   simp only[i5,n8,simprocAttr];refine⟨((K,us8),gm,false),by simp,h9',hr8,hx8,by rw[e];exact hfm,hsq8,hdec8,by rw[e];exact hcn,fun _=>?_⟩;simp only[];rw[e];exact hfx
  | true=>
   have e:=ht8 rfl;simp only[i5,n8,simprocAttr];refine⟨((K+1,us8),gm,true),by simp;omega,h9',hr8,hx8,?_,hsq8,hdec8,by simp only[];omega,fun h=>by cases h⟩;simp only[];rw[aD6,←hfm,hrd'];rfl
 obtain⟨j,rfl⟩:∃j,J=j+1:=⟨J-1,by simp at hc4;omega⟩;have hj:j+1<k2:=hJ;have hcast:((j+1:Nat):Int)-1=(j:Int):=by omega
 rw[hcast]at h10;obtain⟨un,hun,hcn8⟩:=R.row hnx (show nx[j]?=some (nx.getD j []) by rw[List.getD,dq7 (by omega)];rfl);have hnj:nx.getD j []∈nx:=by rw[List.getD,dq7 (by omega)];exact dr5 _
 have hinn:=hnx.inS (k:=j) (by omega);have hldn:=G1 (P:=prog) (t:=112) hcn8 (b7 hx8) R0;simp only[i5,n8,z6,simprocAttr,hcast,h10,m3,m6,hinn,hldn];refine z7 (bU3 vf un k2 gm (nx.getD j []) w8 (hr8.ro (b7 hx8)) (A3.mono (b7 hx8) hun) hsq8 (hxk _ hnj) (by omega) (by have:=hnl _ hnj;omega)) ?_;rintro ul w9 ⟨hol,hx9⟩;have hinl:=hol.inS (k:=j) (by rw[ac7,hsq8.len];omega);obtain⟨w10,s1,hol10,hm10,_⟩:=D9 (P:=prog) (t:=4) hol rfl (k:=j) (by rw[ac7,hsq8.len];omega) (x:=.bool true) (y:=true) rfl rfl hib hib1;have hnew:(X5 gm (nx.getD j [])).set j true=V6 nx gm j:=rfl;rw[hnew]at hol10;have hx10:o7 w8 w10:=hol.ext2 hx9 hm10;have hx410:=hx8.trans hx10;have hr10:=hr8.ext hx10;have hR10:=hr10.ro (b7 hx410);obtain⟨hg,hgl⟩:=hsq8.get (a:=j) (by omega);obtain⟨ur,hur,hcr⟩:=R.row hR10 hg;have hldr:=G1 (P:=prog) (t:=149) hcr (d7 _) aj9;have hinf:=hR10.inS (k:=j) (by rw[hsq8.len];omega);simp only[i5,n8,z6,simprocAttr,hinl,s1,h10,m6,hinf,hldr];refine z7 (bQ0 ul ur (V6 nx gm j) (gm.getD j []) w10 (hol10.rw_ (b7 hx10)) hur (by rw[ay4,hsq8.len];omega) (by rw[hgl];omega)) ?_;rintro _ w11 ⟨rfl,hx11⟩;obtain⟨st1,st2,st3,st4⟩:=bV3 hsq8 hdec8 hj;have hrnd:M3 nx gm (j+1)=M3 nx (Q9 nx gm j) j:=rfl;rw[hrnd]at hrd;have hwj:IntKind.i64.wrap ((j:Int)-1)=(j:Int)-1:=K6 _ (by omega);rcases dq8 (decide (V6 nx gm j=gm.getD j []))with he|he
 ·have hse:=st3 (dr0 he);rw[hse]at hrd;simp only[i5,n8,simprocAttr,he,h10,hwj];refine⟨((j,us8),gm,tv),by simp,by trivial,by simp only[];omega,h9',hr10.ext hx11,hx410.trans hx11,hrd,hsq8,hdec8,hf8,ht8⟩
 ·have hlt8:=st4 (dr2 he);have hul8:us8.length=k2:=by rw[hr8.len,hsq8.len]
  obtain⟨u8,hu8⟩:∃u,us8[j]?=some u:=⟨us8[j]'(by omega),dq7 (by omega)⟩;obtain⟨w12,s2,hr12,hm12,_⟩:=hr8.put (P:=prog) (t:=149) hu8 (t8.up (hx10.trans hx11)) ((hol10.ext hx11).back hx8) (fun b hb=>.inr (D0 (hol10.free hb))) hibb hibb1;have hino:=hr8.outer.inS (k:=j) (by omega);simp only[i5,n8,z6,simprocAttr,he,m6,hino,s2,h10,hwj];refine⟨((j,us8.set j ⟨ul⟩),Q9 nx gm j,true),by simp,by trivial,by simp only[];omega,by trivial,hr12,(hr8.outer.ext (hx10.trans hx11)).ext2 (hx410.trans hx11) hm12,hrd,st1,st2,(fun h=>by cases h),fun _=>?_⟩;simp only[];cases tv with
  | false=>rw[hf8 rfl]at hlt8 ⊢;exact hlt8
  | true=>have:=ht8 rfl;omega
theorem bp8{n:Nat}{next:List (List Int)}{f:List (List Bool)}(hs:SqM n f)(a:Nat):SqM n (Q9 next f a):=by
 have e:Q9 next f a=f.set a (V6 next f a):=rfl
 rw[e];refine⟨by rw[dy4,hs.len],fun r hr=>?_⟩;rcases dz1 hr with h|h
 ·exact hs.row r h
 ·rw[h,ay4,hs.len]
theorem aD7{n:Nat}{next:List (List Int)}:∀(m:Nat) {f:List (List Bool)},SqM n f→SqM n (M3 next f m)
 | 0,_,h=>h
 | m+1,_,h=>aD7 m (bp8 h m)
theorem bi4{n:Nat}{next:List (List Int)}{m:Nat}:∀(k:Nat) {f:List (List Bool)},SqM n f→SqM n (Z9 next m k f)
 | 0,_,h=>h
 | k+1,_,h=>bi4 k (aD7 m h)
theorem cj6(wy:Wy):SqM wy.n.toNat wy.follow:=by
 unfold Wy.follow;exact bi4 _ (af8 _)
def af5(f:List (List Bool))(M:Nat)(l:List (Int×Int))(a b:Nat):Bool:=decide (1≤b)&&decide (b+1<M)&&l.any fun t=>decide (t.1=(a:Int))&&(mAt f t.2.toNat b&&(decide (a=b) || !mAt f a b))
theorem ci2(f:List (List Bool))(M:Nat)(l:List (Int×Int))(t:Int×Int)(a b:Nat):af5 f M (l++[t]) a b=(af5 f M l a b||(decide (1≤b)&&decide (b+1<M)&&decide (t.1=(a:Int))&&(mAt f t.2.toNat b&&(decide (a=b) || !mAt f a b)))):=by
 unfold af5;rw[List.any_append];cases decide (1≤b)<;>cases decide (b+1<M)<;>simp
theorem bh0{wy:Wy}{M:Nat}(hM:wy.n=(M:Int)):wy.decides=(List.range M).flatMap fun a=>((List.range M).filter fun b=>af5 wy.follow M (wy.pairs wy.aug) a b).map fun(b:Nat)=>(wy.place (a:Int),wy.place (b:Int)):=by
 unfold Wy.decides;simp only[];rw[hM,dt5]
 congr 1
 funext a
 congr 1
 refine List.filter_congr fun b hb=>?_;unfold af5;have h1:decide ((b:Int)<(M:Int)-1)=decide (b+1<M):=by rw[dv1];omega
 rw[h1];refine ds7 (fun g=>decide (1≤b)&&decide (b+1<M)&&(wy.pairs wy.aug).any g) (funext fun t=>?_);unfold atB mAt;rw[dt5,Bool.and_assoc]
theorem bA0{α:Type}{l:List α}{k:Nat}{d x:α}(h:l[k]?=some x):l.getD k d=x:=by rw[List.getD,h];rfl
theorem bD6(a:Addr)(wy:Wy)(p:Pg)(i x y:Nat)(w:World)(ha:At (i4 w) a wy)(hr:E8 p)(hw:D1 p≤1000000)(hi:i<p.procs.length)(hok:ao2 p i x y wy):
  p7 prog 61 #[.pointer (some a)] w fun u w'=>(B0 (i4 w) w' 128 u wy.decides∧o7 w w'):=by
 refine p8 [.pointer (some a)] func61 rfl ?_;obtain⟨_,_,_,_,_,_,ldw,sdw⟩:=ha.wy;have h200:=G9 hr.may;have hlen:=hok.part.ok.len;have hle':=hok.part.ok.le;have hn:=hok.n;have hdl:=bY0 hr hw hi hok;have hdr:=bY1 hr hw hi hok;have hpr:=aQ4 hok.toWyOk hdr;have hpl:(wy.pairs wy.aug).length=wy.aug.length:=dr9 _;have hnn:wy.n=((wy.n.toNat:Nat):Int):=by omega
 have hfsq:=cj6 wy;have hM200:wy.n.toNat≤202:=by omega
 have hM2:2≤wy.n.toNat:=by omega
 generalize hM:wy.n.toNat=M at hnn hM200 hM2 hfsq;have hF:=bh0 hnn;simp only[i5,n8,simprocAttr];refine z7 (bO1 a wy p i x y w ha hr hw hi hok) ?_;rintro vf w1 ⟨hvf,hx1⟩;generalize wy.follow=fm at hvf hF hfsq;have lw1:=ldw w1 (b7 hx1);have hz:A3.enc (i4 w1) (Value.slice none 0 0).cells.toList E1:=⟨rfl,rfl⟩;obtain⟨vo,w2,hmk,ho2,hx2,_,_⟩:=mk (P:=prog) (w:=w1) (h:=i4 w1) cP1 aX6 (α:=Z3) (y:=E1) hz (n:=M) (by omega) (by omega) (d7 _);rw[←hnn]at hmk;have hr2:=an5 (α:=Bool) (T':=4) ho2;have hSo:=ho2.isS;have hno:vlen vo=M:=by rw[ho2.vlen,dv9]
 obtain⟨ib,hib,hib1⟩:=aS5 (P:=prog) U1 aF6;obtain⟨ibb,hibb,hibb1⟩:=aS5 (P:=prog) aX6 bC7;have hzl:(List.replicate M (List.replicate M false)).length=M:=dv9;simp only[i5,n8,simprocAttr,lw1,hmk,hSo,hno];refine n9 [0,3,4,21] (σ:=Nat×List Z3) (fun s f w'=>f 22 = .int .i64 s.1∧s.1≤M∧K9 (i4 w1) w' 149 4 vo s.2 ((List.replicate M (List.replicate M false)).take s.1++List.replicate (M-s.1) [])∧o7 w1 w') (fun s=>M-s.1) (0,List.replicate M E1) ?_ ?_
 ·simp only[p6,simprocAttr];exact⟨by trivial,dr8 _,by simpa using hr2,hx2⟩
 rintro⟨k,us⟩ f w3 hk ⟨h22,hkl,hr3,hx3⟩;simp only at h22 hkl hr3;simp only[dq9,p6,simprocAttr]at hk;obtain⟨e0,e3,e4,e21,_⟩:=hk;have lw3:=ldw w3 (b7 (hx1.trans hx3));simp only[i5,n8,simprocAttr,h22,e21];refine m8 (fun hc=>?_) (fun hc=>?_)
 ·have hlt:k<M:=by simpa using hc
  obtain⟨vr,w4,hmk2,hor,hx4,hfr4,_⟩:=mk (P:=prog) (w:=w3) (h:=i4 w1) (α:=Bool) bq9 U1 (y:=false) rfl (n:=M) (by omega) (by omega) (b7 hx3);rw[←hnn]at hmk2;have hul:us.length=M:=by rw[hr3.len,dr1,ds3,dv9,dv9];omega
  obtain⟨u,hu⟩:∃u,us[k]?=some u:=⟨us[k]'(by omega),dq7 (by omega)⟩;have hin:=hr3.outer.inS (k:=k) (by omega);obtain⟨w5,s1,hr5,hm5,_⟩:=hr3.put (P:=prog) (t:=149) hu (t8.up hx4) hor (fun b hb=>.inr (hfr4 b hb)) hibb hibb1;rw[ah9 (d:=([]:List Bool)) hzl hlt (by rw[dB1,if_pos hlt])]at hr5;simp only[i5,n8,z6,simprocAttr,h22,e0,e4,lw3,hmk2,hin,s1];refine⟨(k+1,us.set k ⟨vr⟩),by simp only[];omega,by simp only[];rw[A8 k (by omega)],by simp only[];omega,hr5,(hr3.outer.ext hx4).ext2 (hx3.trans hx4) hm5⟩
 have hge:k=M:=by simp at hc;omega
 subst hge;rw[Nat.sub_self,List.replicate_zero,du2,dv8 (by rw[hzl];exact ds5 _)]at hr3;simp only[i5,simprocAttr,e0];refine z7 (bX2 a wy p i x y w3 (ha.mono (b7 (hx1.trans hx3))) hr hw hi hok) ?_;rintro ud w4 ⟨hod,hx4⟩;simp only[i5,simprocAttr];refine z7 (am5 a wy p i x y ud _ w4 (ha.mono (b7 (hx1.trans (hx3.trans hx4)))) hok.toWyOk (hod.rw_ (b7 hx4)) hdr (by omega)) ?_;rintro uq w5 ⟨hoq,hx5⟩;have hr5:=hr3.ext (hx4.trans hx5);generalize wy.pairs wy.aug=ps at hoq hF hpr hpl;have hx15:=hx3.trans (hx4.trans hx5);have huq:R (B7 w5 (L3 vo us)) uq ps:=hoq.flatRN fun b hb=>D3 fun hbu=>by
  have h1:=(hr3.ext hx4).lt hbu;have h2:=D0 (hoq.free hb);omega
 have hrfree:∀b,L3 vo us b→i4 w1 b=none:=fun b hb=>hr5.free hb;have hul:us.length=k:=by rw[hr5.len,dv9]
 have hSq:=huq.isS;have hnq:=huq.vlen;have hat0:∀A B,A<k→B<k→mAt (List.replicate k (List.replicate k false)) A B=af5 fm k [] A B:=fun A B hA hB=>by
  unfold mAt af5;rw[bA0 (show(List.replicate k (List.replicate k false))[A]?=some (List.replicate k false) by rw[dB1,if_pos hA]),bA0 (show(List.replicate k false)[B]?=some false by rw[dB1,if_pos hB])];simp
 have hsq0:SqM k (List.replicate k (List.replicate k false)):=⟨dv9,fun r hr=>by rw[dx2 hr,dv9]⟩;simp only[i5,n8,simprocAttr,hSq,hnq];refine n9 [0,3,4,37,38] (σ:=Nat×List (List Bool)) (fun s f w'=>f 39 = .int .i64 s.1∧s.1≤ps.length∧K9 (i4 w1) w' 149 4 vo us s.2∧t8 (L3 vo us) w5 w'∧SqM k s.2∧∀A B,A<k→B<k→mAt s.2 A B=af5 fm k (ps.take s.1) A B) (fun s=>ps.length-s.1) (0,List.replicate k (List.replicate k false)) ?_ ?_
 ·simp only[p6,simprocAttr];exact⟨by trivial,dr8 _,hr5,t8.refl _,hsq0,by simpa using hat0⟩
 rintro⟨q,X⟩ f6 w6 hk ⟨h39,hql,hr6,hm6,hsq,hat⟩;simp only at h39 hql hr6 hsq hat;simp only[dq9,p6,simprocAttr]at hk;obtain⟨g0,g3,g4,g37,g38,_⟩:=hk;rw[e0]at g0;rw[e3]at g3;rw[e4]at g4;have hx16:o7 w1 w6:=t8.ext_of hx15 hm6 fun b hb=>D0 (hrfree b hb);simp only[i5,n8,simprocAttr,h39,g38];refine m8 (fun hc2=>?_) (fun hc2=>?_)
 ·have hlt:q<ps.length:=by simpa using hc2
  have hin:=huq.inS hlt;have hld:=cw7 huq (C8 hm6) (dq7 hlt);have htk:=dr6 hlt;obtain⟨hq1,hq2⟩:=hpr _ (dr5 hlt);generalize ps[q]=t at hld htk hq1 hq2;obtain⟨z1,z2⟩:=t;simp only at hq1 hq2 hld;obtain⟨A,rfl⟩:∃Q:Nat,z1=(Q:Int):=⟨z1.toNat,by omega⟩;obtain⟨C,rfl⟩:∃Q:Nat,z2=(Q:Int):=⟨z2.toNat,by omega⟩;have hA:A<k:=by omega
  have hC:C<k:=by omega
  have hes:∀A' B,af5 fm k (ps.take (q+1)) A' B=(af5 fm k (ps.take q) A' B||(decide (1≤B)&&decide (B+1<k)&&decide (A=A')&&(mAt fm C B&&(decide (A'=B) || !mAt fm A' B)))):=fun A' B=>by
   rw[htk,ci2];simp only[dt5];have:decide ((A:Int)=(A':Int))=decide (A=A'):=by rw[dv1];omega
   rw[this]
  obtain⟨c,wz,w7,hal,hst7,hx7,hh7,hge7⟩:=cD7 (w:=w6) (A:Int) (C:Int);have hr7:=hr6.ext hx7;have hcw:¬L3 vo us c:=fun hb=>by
   have:=hr6.lt hb;omega
  have hx17:=hx16.trans hx7;have hm57:t8 (L3 vo us) w5 w7:=hm6.chain (t8.up (M:=fun _=>False) hx7) fun _ _ h=>h.elim;obtain⟨hgA,hglA⟩:=hsq.get hA;obtain⟨uA,huA⟩:∃u,us[A]?=some u:=⟨us[A]'(by omega),dq7 (by omega)⟩;obtain⟨hfC,hflC⟩:=hfsq.get hC;obtain⟨hfA,hflA⟩:=hfsq.get hA;obtain⟨uC,hvC,hcC⟩:=R.row hvf hfC;obtain⟨uA2,hvA,hcA⟩:=R.row hvf hfA;have hinfC:=hvf.inS (k:=C) (by rw[hfsq.len];exact hC);have hinfA:=hvf.inS (k:=A) (by rw[hfsq.len];exact hA);have hld7:=am2 hh7 (M:=fun _=>False) (t8.refl w7) id;have hwn:IntKind.i64.wrap (wy.n-1)=((k-1:Nat):Int):=by rw[K6 _ (by omega)];omega
  simp only[i5,n8,z6,simprocAttr,h39,g37,hin,hld,hal,hst7,hld7];refine n9 [0,3,4,7,8,37,38,39] (σ:=Nat×List Bool) (fun s f w'=>f 9 = .int .i64 s.1∧1≤s.1∧s.1+1≤k∧K9 (i4 w1) w' 149 4 vo us (X.set A s.2)∧t8 (L3 vo us) w7 w'∧s.2.length=k∧∀B,B<k→s.2.getD B false=if B<s.1 then af5 fm k (ps.take (q+1)) A B else af5 fm k (ps.take q) A B) (fun s=>k-s.1) (1,X.getD A []) ?_ ?_
  ·simp only[p6,simprocAttr];refine⟨by trivial,by simp,by omega,by rw[bK8 hgA];exact hr7,t8.refl _,hglA,fun B hB=>?_⟩;have h1:=hat A B hA hB;unfold mAt at h1;rw[h1];split
   ·next hB1=>
    have:B=0:=by omega
    subst this;rw[hes];simp
   ·rfl
  rintro⟨b,r⟩ f8 w8 hk ⟨h9,hb1,hbk,hr8,hm8,hrl,hrv⟩;simp only at h9 hb1 hbk hr8 hrl hrv;simp only[dq9,p6,simprocAttr]at hk;obtain⟨j0,j3,j4,j7,j8,j37,j38,j39,_⟩:=hk;rw[g0]at j0;rw[g3]at j3;rw[g4]at j4;rw[h39]at j39;have hx78:o7 w1 w8:=t8.ext_of hx17 hm8 fun b hb=>D0 (hrfree b hb);have lw8:=ldw w8 (b7 (hx1.trans hx78));have hld8:=am2 hh7 hm8 hcw;have hldC:=G1 (P:=prog) (t:=149) hcC (b7 hx78) aj9;have hldA:=G1 (P:=prog) (t:=149) hcA (b7 hx78) aj9;simp only[i5,n8,simprocAttr,j0,h9,lw8,hwn];refine m8 (fun hc3=>?_) (fun hc3=>?_);rotate_left
  ·have hbe:b+1=k:=by simp at hc3;omega
   have hall:∀B,B<k→r.getD B false=af5 fm k (ps.take (q+1)) A B:=fun B hB=>by
    rw[hrv B hB];split
    ·rfl
    ·rw[hes];have:decide (B+1<k)=false:=by simp;omega
     rw[this];simp
   simp only[i5,n8,simprocAttr,j39];refine⟨(q+1,X.set A r),by simp only[];omega,by simp only[];rw[A8 q (by omega)],by simp only[];omega,hr8,hm57.chain hm8 fun _ _ h=>h,⟨by rw[dy4,hsq.len],fun s hs=>?_⟩,fun A' B hA' hB=>?_⟩
   ·rcases dz1 hs with h|h
    ·exact hsq.row s h
    ·rw[h];exact hrl
   ·unfold mAt;simp only[];rw[aR7 A' (by rw[hsq.len];exact hA)];split
    ·next hAA=>subst hAA;exact hall B hB
    ·next hAA=>
     have h1:=hat A' B hA' hB;unfold mAt at h1;rw[h1,hes];simp[hAA]
  have hlt3:b+1<k:=by
   have:=dr0 hc3;omega
  have hbk2:b<k:=by omega
  have hinC:=hvC.inS (k:=b) (by omega);have hldCb:=ldB hvC (b7 hx78) (k:=b) (by omega);have hinA:=hvA.inS (k:=b) (by omega);have hldAb:=ldB hvA (b7 hx78) (k:=b) (by omega);have hge:∀r:List Bool,∀h:b<r.length,r[b]=r.getD b false:=fun r h=>by simp[List.getD,h]
  rw[hge]at hldCb hldAb;have hmC:(fm.getD C []).getD b false=mAt fm C b:=rfl;have hmA:(fm.getD A []).getD b false=mAt fm A b:=rfl;rw[hmC]at hldCb;rw[hmA]at hldAb;have hrA:(X.set A r)[A]?=some r:=dx3 (by rw[hsq.len];exact hA);have hrow:=hr8.row A uA r huA hrA;have hrv0:=hrv b hbk2;rw[if_neg (Nat.lt_irrefl _)]at hrv0;have hesb:=hes A b;have hd1:decide (1≤b)=true:=by simpa using hb1
  have hd2:decide (b+1<k)=true:=by simpa using hlt3
  rw[hd1,hd2]at hesb;simp only[decide_true,dy1]at hesb;have hskip:(mAt fm C b&&(decide (A=b) || !mAt fm A b))=false→∀B,B<k→r.getD B false=if B<b+1 then af5 fm k (ps.take (q+1)) A B else af5 fm k (ps.take q) A B:=fun hf B hB=>by
   rw[hrv B hB];by_cases h1:B<b
   ·rw[if_pos h1,if_pos (by omega)]
   ·rw[if_neg h1];by_cases h2:B=b
    ·subst h2;rw[if_pos (by omega),hesb,hf,Bool.or_false]
    ·rw[if_neg (by omega)]
  have hmark:(mAt fm C b&&(decide (A=b) || !mAt fm A b))=true→∀B,B<k→(r.set b true).getD B false=if B<b+1 then af5 fm k (ps.take (q+1)) A B else af5 fm k (ps.take q) A B:=fun hf B hB=>by
   rw[aR7 B (by omega)];by_cases h1:b=B
   ·subst h1;rw[if_pos rfl,if_pos (by omega),hesb,hf,dD1]
   ·rw[if_neg h1,hrv B hB];by_cases h2:B<b
    ·rw[if_pos h2,if_pos (by omega)]
    ·rw[if_neg h2,if_neg (by omega)]
  have hwb:IntKind.i64.wrap ((b:Int)+1)=((b+1:Nat):Int):=A8 b (by omega);obtain⟨w9,s1,ho9,hm9,_⟩:=D9 (P:=prog) (t:=4) hrow rfl (k:=b) (by omega) (x:=.bool true) (y:=true) rfl rfl hib hib1;have hr9:=hr8.write huA hm9 ho9;rw[List.set_set]at hr9;have hm79:t8 (L3 vo us) w7 w9:=hm8.chain hm9 fun z _ h=>.inr ⟨uA,ds9 huA,h⟩;have hldo:=bl4 (P:=prog) (t:=149) hr8.outer huA aj9;have hino:=hr8.outer.inS (k:=A) (by omega);have hinb:=hrow.inS (k:=b) (by omega);have hAb:decide ((A:Int)=(b:Int))=decide (A=b):=by rw[dv1];omega
  generalize mAt fm C b=vC at hldCb hskip hmark hesb;generalize mAt fm A b=vA at hldAb hskip hmark hesb;generalize hdd:decide (A=b)=dd at hAb hskip hmark hesb;rcases dq8 vC with h1|h1<;>subst h1;rotate_left
  ·simp only[i5,n8,z6,simprocAttr,j3,j7,h9,hld8,hinfC,hldC,hinC,hldCb,hwb];refine⟨(b+1,r),by simp only[];omega,by trivial,by simp only[];omega,by simp only[];omega,hr8,hm8,hrl,hskip rfl⟩
  rcases dq8 dd with h2|h2<;>subst h2
  ·simp only[i5,n8,z6,simprocAttr,j3,j4,j7,j8,h9,hld8,hinfC,hldC,hinC,hldCb,hAb,hwb,hino,hldo,hinb,s1];refine⟨(b+1,r.set b true),by simp only[];omega,by trivial,by simp only[];omega,by simp only[];omega,hr9,hm79,by simp only[];rw[dy4];exact hrl,hmark rfl⟩
  rcases dq8 vA with h3|h3<;>subst h3
  ·simp only[i5,n8,z6,simprocAttr,j3,j7,j8,h9,hld8,hinfC,hldC,hinC,hldCb,hAb,hwb,hinfA,hldA,hinA,hldAb];refine⟨(b+1,r),by simp only[];omega,by trivial,by simp only[];omega,by simp only[];omega,hr8,hm8,hrl,hskip rfl⟩
  ·simp only[i5,n8,z6,simprocAttr,j3,j4,j7,j8,h9,hld8,hinfC,hldC,hinC,hldCb,hAb,hwb,hinfA,hldA,hinA,hldAb,hino,hldo,hinb,s1];refine⟨(b+1,r.set b true),by simp only[];omega,by trivial,by simp only[];omega,by simp only[];omega,hr9,hm79,by simp only[];rw[dy4];exact hrl,hmark rfl⟩
 have hge:q=ps.length:=by simp at hc2;omega
 subst hge;rw[ds2]at hat;have hX6:=hr6.ro (b7 hx16);have hx06:=hx1.trans hx16;have ha6:=ha.mono (b7 hx06);clear hr6 hm6 huq hoq hr5 hr3 hr2 hod;generalize hG:(fun a:Nat=>((List.range k).filter fun b=>af5 fm k ps a b).map fun(b:Nat)=>(wy.place (a:Int),wy.place (b:Int)))=G at hF;have hGe:∀A,G A=((List.range k).filter fun b=>af5 fm k ps A b).map fun(b:Nat)=>(wy.place (A:Int),wy.place (b:Int)):=fun A=>by rw[←hG]
 have hGl:∀A,(G A).length≤k:=fun A=>by
  rw[hGe,dr9];exact dr7 (dt9 _ _) (by simp)
 have hpre:∀A,A≤k→((List.range A).flatMap G).length≤202*202:=fun A hA=>dr7 (S1 G k _ fun x _=>hGl x) (by rw[dw7];exact Nat.mul_le_mul (by omega) (by omega));simp only[i5,n8,simprocAttr,g4,hSo,hno];refine n9 [0,4,85] (σ:=Nat×Value) (fun s f w'=>f 86 = .int .i64 s.1∧f 10=s.2∧s.1≤k∧B0 (i4 w6) w' 128 s.2 ((List.range s.1).flatMap G)∧o7 w6 w') (fun s=>k-s.1) (0,.slice none 0 0) ?_ ?_
 ·simp only[p6,simprocAttr];exact⟨by trivial,by trivial,dr8 _,by simpa using B0.nil _ _ _,t8.refl _⟩
 rintro⟨A,u⟩ f9 w9 hk ⟨h86,h10,hAk,ho,hx9⟩;simp only at h86 h10 hAk ho;simp only[dq9,p6,simprocAttr]at hk;obtain⟨m0,m4,m85,_⟩:=hk;rw[g0]at m0;rw[g4]at m4;simp only[i5,n8,simprocAttr,h86,m85];refine m8 (fun hc4=>?_) (fun hc4=>?_);rotate_left
 ·have hge:A=k:=by simp at hc4;omega
  subst hge;simp only[i5,simprocAttr,h10];refine o6 results61 ?_;simp only[p6,simprocAttr];exact⟨by rw[hF];exact ho.backN hx06,hx06.trans hx9⟩
 have hA:A<k:=by simpa using hc4
 obtain⟨hgA,hglA⟩:=hsq.get hA;obtain⟨uA,hvA,hcA⟩:=R.row hX6 hgA;have hldA:=G1 (P:=prog) (t:=149) hcA (b7 hx9) aj9;have hinA:=hX6.inS (k:=A) (by rw[hsq.len];exact hA);have hSA:=hvA.isS;have hnA:=hvA.vlen;rw[hglA]at hnA;have hp0:=hpre A hAk;have hstepA:(List.range (A+1)).flatMap G=(List.range A).flatMap G++G A:=by rw[dB9,dC2];simp
 generalize(List.range A).flatMap G=pre at ho hp0 hstepA;simp only[i5,n8,z6,simprocAttr,h86,m4,hinA,hldA,hSA,hnA];refine n9 [0,4,11,85,86,93] (σ:=Nat×Value) (fun s f w'=>f 94 = .int .i64 s.1∧f 10=s.2∧s.1≤k∧B0 (i4 w6) w' 128 s.2 (pre++((List.range s.1).filter fun b=>af5 fm k ps A b).map fun(b:Nat)=>(wy.place (A:Int),wy.place (b:Int)))∧o7 w6 w') (fun s=>k-s.1) (0,u) ?_ ?_
 ·simp only[p6,simprocAttr];exact⟨by trivial,h10,dr8 _,by simpa using ho,hx9⟩
 rintro⟨b,u2⟩ f10 w10 hk ⟨h94,h10',hbk,ho2,hx10⟩;simp only at h94 h10' hbk ho2;simp only[dq9,p6,simprocAttr]at hk;obtain⟨n0,n4,n11,n85,n86,n93,_⟩:=hk;rw[m0]at n0;rw[m4]at n4;rw[m85]at n85;rw[h86]at n86;have hcnt:(((List.range b).filter fun b=>af5 fm k ps A b).map fun(b:Nat)=>(wy.place (A:Int),wy.place (b:Int))).length≤b:=by
  rw[dr9];exact dr7 (dt9 _ _) (by simp)
 simp only[i5,n8,simprocAttr,h94,n93];refine m8 (fun hc5=>?_) (fun hc5=>?_);rotate_left
 ·have hge:b=k:=by simp at hc5;omega
  subst hge;simp only[i5,n8,simprocAttr,n86];refine⟨(A+1,u2),by simp only[];omega,by simp only[];rw[A8 A (by omega)],h10',by simp only[];omega,?_,hx10⟩;simp only[];rw[hstepA,hGe];exact ho2
 have hb:b<k:=by simpa using hc5
 have hinb:=hvA.inS (k:=b) (by omega);have hldb:=ldB hvA (b7 hx10) (k:=b) (by omega);have hge:∀r:List Bool,∀h:b<r.length,r[b]=r.getD b false:=fun r h=>by simp[List.getD,h]
 rw[hge]at hldb;have hmA:(X.getD A []).getD b false=af5 fm k ps A b:=hat A b hA hb;rw[hmA]at hldb;have hst2:(((List.range (b+1)).filter fun b=>af5 fm k ps A b).map fun(b:Nat)=>(wy.place (A:Int),wy.place (b:Int)))=(((List.range b).filter fun b=>af5 fm k ps A b).map fun(b:Nat)=>(wy.place (A:Int),wy.place (b:Int)))++if af5 fm k ps A b then[(wy.place (A:Int),wy.place (b:Int))]else[]:=by
  rw[dB9,dy3,du1]
  congr 1
  cases h:af5 fm k ps A b<;>simp[h]
 have hldA2:=G1 (P:=prog) (t:=149) hcA (b7 hx10) aj9;generalize af5 fm k ps A b=D at hldb hst2;rcases dq8 D with h1|h1<;>subst h1;rotate_left
 ·simp only[i5,n8,z6,simprocAttr,h94,n4,n11,hinA,hldA2,hinb,hldb];refine⟨(b+1,u2),by simp only[];omega,by simp only[];rw[A8 b (by omega)],h10',by simp only[];omega,?_,hx10⟩;simp only[];rw[hst2,if_neg (by simp),du2];exact ho2
 ·simp only[i5,n8,z6,simprocAttr,h94,h10',n0,n4,n11,hinA,hldA2,hinb,hldb];refine B2 (ab5 a wy p i x y (A:Int) w10 (ha6.mono (b7 hx10)) hok.toWyOk (by omega)) (fun w11 hx11=>?_);simp only[i5,simprocAttr,n0];refine B2 (ab5 a wy p i x y (b:Int) w11 (ha6.mono (b7 (hx10.trans hx11))) hok.toWyOk (by omega)) (fun w12 hx12=>?_);have hx612:=hx10.trans (hx11.trans hx12);obtain⟨p1,u',w13,p2,p3,p4,p5⟩:=push (e:=125) dd2 rfl (ho2.ext (hx11.trans hx12)) (x:=.agg #[.int .i64 (wy.place (A:Int)),.int .i64 (wy.place (b:Int))]) (y:=(wy.place (A:Int),wy.place (b:Int))) (cN6 _ _) (by rw[dr1];omega) (by rw[dr1];omega) (b7 hx612);simp only[i5,n8,simprocAttr,h94,bZ1,p1,p2];refine⟨(b+1,u'),by simp only[];omega,by simp only[];rw[A8 b (by omega)],by trivial,by simp only[];omega,?_,(ho2.ext (hx11.trans hx12)).ext2 hx612 p4⟩;simp only[];rw[hst2,if_pos rfl,←dt4];exact p3
def Y0:A7:=ofA #[36,105,110]
def I3:A7:=ofA #[36,114,101,116]
def O7(p:Pg)(n:A7):Bool:=decide (n=Y0)||p.globals.contains n
def F5{α:Type}(l:List (List α))(i:Int):List α:=l.getD i.toNat []
def cR9(p:Pg)(n:A7):Pr:=p.procs.getD (S5 p.procs n).toNat bq6
def aw6(p:Pg)(outs:List (List A7))(s:St):List A7:=
 (if s.name=e0 then[]else[s.name])++(((s.args.zip (cR9 p s.proc).params).filter fun x=>x.1.ref&&(F5 outs (S5 p.procs s.proc)).contains x.2.name).map fun x=>x.1.name)++(F5 outs (S5 p.procs s.proc)).filter (O7 p)
def ak6(p:Pg)(outs:List (List A7))(s:St):List A7:=
 if s.kind=1 then[s.name]else if s.kind=2 then[s.name,Y0]else if s.kind=9 then[I3]else if s.kind=4 then aw6 p outs s else[]
def al2(p:Pg)(ins:List (List A7))(s:St):List A7:=
 aa7 s.x++(if s.kind=2 then[Y0]else[])++if s.kind=4 then s.args.flatMap J3++F5 ins (S5 p.procs s.proc)else[]
def H8(p:Pg)(outs:List (List A7)):List (List A7):=(b9 p).l.map fun it=>C9 (ak6 p outs it.s)
def M5(p:Pg)(ins:List (List A7)):List (List A7):=(b9 p).l.map fun it=>C9 (al2 p ins it.s)
def W3(p:Pg)(i:Nat)(n:A7):Bool:=O7 p n||(p.procs.getD i bq6).params.contains ⟨n,true⟩
def aa9(p:Pg)(defs:List (List A7))(i:Nat):List A7:=
 (((b9 p).of i).filter fun it=>(E2 (b9 p) i).lives it.s.id).flatMap fun it=>(F5 defs (it.s.id-1)).filter (W3 p i)
def F9(p:Pg)(outs:List (List A7)):List (List A7):=(List.range p.procs.length).map fun i=>C9 (aa9 p (H8 p outs) i)
def ci8{α:Type}[DecidableEq α](g:α→α):Nat→α→α
 | 0,x=>x
 | k+1,x=>if g x=x then x else ci8 g k (g x)
def cx8(p:Pg):List (List A7):=List.replicate p.procs.length []
def J1(p:Pg):List (List A7):=ci8 (F9 p) 1000 (cx8 p)
def as6(nx:List (List Int))(stop:Nat→Bool):List (List Int):=(List.range nx.length).map fun a=>if stop a then[]else nx.getD a []
def bR8(wy:Wy)(outs:List A7)(uses:List (List A7))(name:A7)(a:Nat):Bool:=
 if(a:Int)=wy.n-1 then outs.contains name else !decide (a=0)&&(F5 uses (wy.place a-1)).contains name
def aP2(wy:Wy)(uses defs:List (List A7))(name:A7)(a:Nat):Bool:=
 decide ((a:Int)=wy.n-1) || !decide (a=0)&&((F5 uses (wy.place a-1)).contains name||(F5 defs (wy.place a-1)).contains name)
def ax6(wy:Wy)(outs:List A7)(uses defs:List (List A7))(name:A7):Bool:=
 (List.range wy.n.toNat).any fun a=>bR8 wy outs uses name a&&T4 (as6 wy.net (aP2 wy uses defs name)) 0 a
def aA3(p:Pg)(outs uses defs:List (List A7))(i:Nat):List A7:=(p.globals++[Y0]).filter (ax6 (E2 (b9 p) i) (F5 outs i) uses defs)
def N9(p:Pg)(outs defs ins:List (List A7)):List (List A7):=(List.range p.procs.length).map fun i=>C9 (aA3 p outs (M5 p ins) defs i)
def Y8(p:Pg):List (List A7):=ci8 (N9 p (J1 p) (H8 p (J1 p))) 1000 (cx8 p)
def J2(p:Pg):List Wy:=(List.range p.procs.length).map (E2 (b9 p))
def y5(p:Pg):Bk:=⟨b9 p,J2 p,H8 p (J1 p),M5 p (Y8 p),Y8 p,J1 p⟩
def dm2(s:Sh):Wy:=⟨s,0,0,[],[]⟩
def Bk.way(b:Bk)(i:Int):Wy:=b.ways.getD i.toNat (dm2 b.s)
def Bk.gives(b:Bk)(i a:Int):List A7:=
 if a=0 then C9 (F5 b.ins i++(b.s.fn i).params.map (·.name))
 else if a=(b.way i).n-1∨atB (b.way i).live a=false then[]else F5 b.defs ((b.way i).place a-1)
def Bk.takes(b:Bk)(i a:Int):List A7:=
 if a=(b.way i).n-1 then C9 (F5 b.outs i++[I3])
 else if a=0∨atB (b.way i).live a=false then[]else F5 b.uses ((b.way i).place a-1)
def Bk.givers(b:Bk)(i:Int)(n:A7):List Nat:=(List.range (b.way i).n.toNat).filter fun(a:Nat)=>(b.gives i a).contains n
def aU1(nx:List (List Int))(kill:List Nat)(a c:Nat):Bool:=(C1 nx a).any fun d=>T4 (as6 nx fun q=>kill.contains q) d c
def fwC(x y:Fw):Int:=orF [J4 (E3 x.src) (E3 y.src),J4 (E3 x.dst) (E3 y.dst),af3 x.var y.var]
def bp9(x y:Fw):Bool:=decide (fwC x y≤0)
def Bk.nx(b:Bk)(i:Int):List (List Int):=(ai9 (b.way i).n.toNat ((b.way i).pairs (b.way i).data)).1
def Bk.flow0(b:Bk)(i:Int):List Fw:=(List.range (b.way i).n.toNat).flatMap fun(a:Nat)=>(b.gives i a).flatMap fun n=>
 ((List.range (b.way i).n.toNat).filter fun(c:Nat)=>(b.takes i c).contains n&&aU1 (b.nx i) (b.givers i n) a c).map fun(c:Nat)=>(⟨(b.way i).place a,(b.way i).place c,n⟩:Fw)
def Bk.flows(b:Bk)(i:Int):List Fw:=V9 bp9 (b.flow0 i)
def vxC(a b:Vx):Int:=orF [af3 a.proc b.proc,J4 a.kind b.kind,J4 a.id b.id,af3 a.slot b.slot]
def cE0(a b:Vx):Bool:=decide (vxC a b≤0)
def egC(a b:Eg):Int:=orF [vxC a.src b.src,vxC a.dst b.dst,J4 a.kind b.kind]
def cH1(a b:Eg):Bool:=decide (egC a b≤0)
def bn0(l:List Eg):List Eg:=I6 (V9 cH1 l)
def Bk.slotsIn(b:Bk)(i:Int):List A7:=S8 (F5 b.ins i++(b.s.fn i).params.map (·.name))
def Bk.slotsOut(b:Bk)(i:Int):List A7:=S8 (F5 b.outs i++[I3])
def Bk.callOut(b:Bk)(s:St):List A7:=if s.name=e0 then(b.slotsOut (b.s.pr s.proc)).filter fun n=>!decide (n=I3)else b.slotsOut (b.s.pr s.proc)
def Bk.vert0(b:Bk)(i:Int):List Vx:=
 ([⟨(b.s.fn i).name,1,0,e0⟩]++(b.slotsIn i).map fun n=>⟨(b.s.fn i).name,3,0,n⟩)++((b.slotsOut i).map fun n=>⟨(b.s.fn i).name,4,0,n⟩) ++
 (b.s.of i).flatMap fun it=>[⟨(b.s.fn i).name,2,it.s.id,e0⟩]++if it.s.kind=4 then((b.slotsIn (b.s.pr it.s.proc)).map fun n=>⟨(b.s.fn i).name,5,it.s.id,n⟩)++(b.callOut it.s).map fun n=>⟨(b.s.fn i).name,6,it.s.id,n⟩else[]
def Bk.verts(b:Bk)(i:Int):List Vx:=V9 cE0 (b.vert0 i)
def U9(a:Ar):List A7:=if a.ref then[a.name]else aa7 a.x
def Bk.callee(b:Bk)(s:St):Pr:=b.s.fn (b.s.pr s.proc)
def Bk.giver(b:Bk)(q:A7)(pl:Int)(n:A7):Vx:=
 if pl=0 then⟨q,3,0,n⟩
 else if(b.s.it pl).s.kind≠4 then⟨q,2,pl,e0⟩
 else if(b.s.it pl).s.name=n then⟨q,6,pl,I3⟩
 else match((b.s.it pl).s.args.zip (b.callee (b.s.it pl).s).params).find? fun x=>x.1.ref&&decide (x.1.name=n)with
  | some x=>⟨q,6,pl,x.2.name⟩
  | none=>⟨q,6,pl,n⟩
def Bk.takers(b:Bk)(q:A7)(pl:Int)(n:A7):List Vx:=
 if pl = -1 then[⟨q,4,0,n⟩]
 else if(b.s.it pl).s.kind≠4 then[⟨q,2,pl,e0⟩]
 else((((b.s.it pl).s.args.zip (b.callee (b.s.it pl).s).params).filter fun x=>(U9 x.1).contains n).map fun x=>⟨q,5,pl,x.2.name⟩) ++
  if(O7 b.s.p n&&(F5 b.ins (b.s.pr (b.s.it pl).s.proc)).contains n)=true then[⟨q,5,pl,n⟩]else[]
def af4(q:A7)(d:Int×Int):Eg:=⟨if d.1=0 then⟨q,1,0,e0⟩else⟨q,2,d.1,e0⟩,⟨q,2,d.2,e0⟩,1⟩
def G2(q:A7)(v:Vx):List Eg:=
 if v.kind=3∨v.kind=4 then[⟨⟨q,1,0,e0⟩,v,1⟩]else if v.kind=5∨v.kind=6 then[⟨⟨q,2,v.id,e0⟩,v,1⟩]else[]
def Bk.edge0(b:Bk)(i:Int):List Eg:=
 (b.way i).decides.map (af4 (b.s.fn i).name)++(b.verts i).flatMap (G2 (b.s.fn i).name) ++
 (b.flows i).flatMap fun f=>(b.takers (b.s.fn i).name f.dst f.var).map fun v=>⟨b.giver (b.s.fn i).name f.src f.var,v,2⟩
def Bk.edges(b:Bk)(i:Int):List Eg:=bn0 (b.edge0 i)
def aC5(p:Pg)(n:A7):Option (Bk×Int):=if ab0 p=true∧0≤S5 p.procs n then some (y5 p,S5 p.procs n)else none
def T5(p:Pg)(n:A7):List A7:=match aC5 p n with
 | some (b,i)=>b.slotsIn i
 | none=>[]
def M4(p:Pg)(n:A7):List A7:=match aC5 p n with
 | some (b,i)=>b.slotsOut i
 | none=>[]
def aF8(p:Pg)(n:A7):List Vx:=match aC5 p n with
 | some (b,i)=>b.verts i
 | none=>[]
def ap2(p:Pg)(n:A7):List Eg:=match aC5 p n with
 | some (b,i)=>b.edges i
 | none=>[]
def F8{α:Type}(g:α→α):Nat→α→α
 | 0,x=>x
 | k+1,x=>F8 g k (g x)
theorem ag0{α:Type}(g:α→α):∀(k:Nat) (x:α),F8 g (k+1) x=g (F8 g k x)
 | 0,x=>rfl
 | k+1,x=>by rw[F8,ag0 g k];rfl
theorem bt8{α:Type}{g:α→α}{x:α}(h:g x=x):∀k,F8 g k x=x
 | 0=>rfl
 | k+1=>by rw[F8,h,bt8 h k]
theorem aO7{α:Type}[DecidableEq α]{g:α→α}:∀(k m:Nat) (x:α),k≤m→g (F8 g k x)=F8 g k x→ci8 g m x=F8 g k x
 | 0,0,x,_,_=>rfl
 | 0,m+1,x,_,h=>by
  have h':g x=x:=h;rw[ci8,if_pos h'];rfl
 | k+1,0,x,hk,_=>by omega
 | k+1,m+1,x,hk,h=>by
  rw[ci8];split
  ·next hx=>rw[bt8 hx]
  ·exact aO7 k m (g x) (by omega) h
abbrev Rws:=List (List A7)
def leR(X Y:Rws):Prop:=∀(i:Nat),∀x∈X.getD i [],x∈Y.getD i []
structure L0 (n B:Nat) (X:Rws):Prop where
 len:X.length=n
 rise:∀r∈X,r.Pairwise fun a b=>ltS a b=true
 few:∀r∈X,r.length≤B
structure az9 (S:Rws→Rws) (n B:Nat):Prop where
 mono:∀X Y,leR X Y→leR (S X) (S Y)
 ok:∀X,L0 n B (S X)
def aw1(X:Rws):Nat:=(X.map (·.length)).sum
theorem aq3{l:List A7}(h:l.Pairwise fun a b=>ltS a b=true):l.Nodup:=by
 refine List.Pairwise.imp (fun{a b} hab he=>?_) h;subst he;rw[N2]at hab;cases hab
theorem cA2{l m:List A7}(h1:l.Pairwise fun a b=>ltS a b=true)(h2:m.Pairwise fun a b=>ltS a b=true)(h:∀x∈l,x∈m):l.length≤m.length∧(l.length=m.length→l=m):=by
 have hn1:=aq3 h1;refine⟨M9 hn1 h,fun hl=>bK3 h1 h2 fun x=>⟨h x,fun hx=>?_⟩⟩;refine dB3 fun hx1=>?_;have:=M9 (l:=x::l) (m:=m) (dD6.2 ⟨hx1,hn1⟩) fun y hy=>by
  rcases dt1.1 hy with rfl|hy
  ·exact hx
  ·exact h y hy
 simp at this;omega
theorem cd6:∀(X Y:Rws),X.length=Y.length→(∀r∈X,r.Pairwise fun a b=>ltS a b=true)→(∀r∈Y,r.Pairwise fun a b=>ltS a b=true)→leR X Y→aw1 X≤aw1 Y∧(aw1 X=aw1 Y→X=Y)
 | [],[],_,_,_,_=>by simp[aw1]
 | x::X,y::Y,hl,h1,h2,h=>by
  have ih:=cd6 X Y (by simpa using hl) (fun r hr=>h1 r (by simp[hr])) (fun r hr=>h2 r (by simp[hr])) fun i z hz=>by
   have:=h (i+1) z;simp only[List.getD_cons_succ]at this;exact this hz
  have h0:=cA2 (h1 x (by simp)) (h2 y (by simp)) fun z hz=>by
   have:=h 0 z;simp only[List.getD_cons_zero]at this;exact this hz
  simp only[aw1,dv6,dB6]at *;refine⟨by omega,fun he=>?_⟩;rw[h0.2 (by omega),ih.2 (by omega)]
theorem bM5{n B:Nat}:∀(X:Rws),(∀r∈X,r.length≤B)→aw1 X≤X.length*B
 | [],_=>by simp[aw1]
 | x::X,h=>by
  have ih:=bM5 (n:=n) X fun r hr=>h r (by simp[hr]);have:=h x (by simp);simp only[aw1,dv6,dB6,dt2,dC1]at *;omega
theorem bl5(n B:Nat):L0 n B (List.replicate n []):=⟨by simp,fun r hr=>by
 rw[dx2 hr];exact List.Pairwise.nil,fun r hr=>by rw[dx2 hr];simp⟩
section
variable {S:Rws→Rws} {n B:Nat}
theorem az9.iter_ok(h:az9 S n B):∀k,L0 n B (F8 S k (List.replicate n []))
 | 0=>bl5 n B
 | k+1=>by rw[ag0];exact h.ok _
theorem az9.grow(h:az9 S n B):∀k,leR (F8 S k (List.replicate n [])) (S (F8 S k (List.replicate n [])))
 | 0=>fun i x hx=>by
  rw[F8,List.getD]at hx;cases hi:(List.replicate n ([]:List A7))[i]? with
  | none=>rw[hi]at hx;simp at hx
  | some r=>
   rw[hi]at hx;have:=dx2 (ds9 hi);subst this;simp at hx
 | k+1=>by
  rw[ag0];exact h.mono _ _ (h.grow k)
theorem az9.more(h:az9 S n B)(k:Nat)(hne:S (F8 S k (List.replicate n []))≠F8 S k (List.replicate n [])):aw1 (F8 S k (List.replicate n []))<aw1 (F8 S (k+1) (List.replicate n [])):=by
 rw[ag0];have h1:=h.iter_ok k;have h2:=h.ok (F8 S k (List.replicate n []));obtain⟨a,b⟩:=cd6 _ _ (by rw[h1.len,h2.len]) h1.rise h2.rise (h.grow k);rcases dv3 (aw1 (F8 S k (List.replicate n []))) (aw1 (S (F8 S k (List.replicate n []))))with hlt|hge
 ·exact hlt
 ·exact absurd (b (by omega)).symm hne
theorem az9.bound(h:az9 S n B)(k:Nat):aw1 (F8 S k (List.replicate n []))≤n*B:=by
 have h1:=h.iter_ok k;have:=bM5 (n:=n) _ h1.few;rw[h1.len]at this;exact this
end
def OkR(nx:List (List Int)):Prop:=∀a,∀b∈C1 nx a,H1 nx.length b=true
theorem bZ3{nx:List (List Int)}(hg:OkR nx):∀(m:Nat) (l:List Int),l.Nodup→(∀b∈l,H1 nx.length b=true)→nx.length≤l.length+m→∀a∈O9 nx m l,∀b∈C1 nx a,b∈O9 nx m l
 | 0,l,hn,hk,hl,a,ha,b,hb=>by
  rw[O9]at ha ⊢;refine dB3 fun hnb=>?_;have h1:(b::l).Nodup:=dD6.2 ⟨hnb,hn⟩;have h2:=M9 (m:=(List.range nx.length).map fun(i:Nat)=>(i:Int)) h1 fun c hc=>by
   have hkc:H1 nx.length c=true:=by
    rcases dt1.1 hc with rfl|hc
    ·exact hg _ _ hb
    ·exact hk c hc
   have:=C3.1 hkc;exact dt7.2 ⟨c.toNat,dv0.2 (by omega),by omega⟩
  simp only[dt2,dr9,dw7]at h2;omega
 | m+1,l,hn,hk,hl,a,ha,b,hb=>by
  rw[O9]at ha ⊢;by_cases he:aA6 nx l=[]
  ·have e:l++((l.flatMap (C1 nx)).filter fun b=>!l.contains b).eraseDups=l:=by
    show l++aA6 nx l=l;rw[he,du2]
   rw[e]at ha ⊢;have hcl:∀c∈l,∀d∈C1 nx c,d∈l:=fun c hc d hd=>dB3 fun hnd=>by
    have:d∈aA6 nx l:=ap9.2 ⟨⟨c,hc,hd⟩,hnd⟩;rw[he]at this;simp at this
   have hst:∀(k:Nat),O9 nx k l=l:=by
    intro k
    induction k with
    | zero=>rfl
    | succ k ih=>rw[O9,e,ih]
   rw[hst]at ha ⊢;exact hcl a ha b hb
  ·have hpos:0<(aA6 nx l).length:=List.length_pos_iff.2 he;refine bZ3 hg m (l++aA6 nx l) ?_ (fun c hc=>?_) (by rw[dr1];omega) a ha b hb
   ·rw[dw0];refine⟨hn,aE6 _ _ (ds5 _),fun c hc d hd e=>?_⟩;subst e;exact(ap9.1 hd).2 hc
   ·rcases ds4.1 hc with h|h
    ·exact hk c h
    ·obtain⟨⟨d,_,hc⟩,_⟩:=ap9.1 h;exact hg _ _ hc
theorem bB9{nx:List (List Int)}(hg:OkR nx){a b:Int}(ha:H1 nx.length a=true):T4 nx a b=true↔Way nx a b:=by
 unfold T4;rw[ha,dy1,dt6];constructor
 ·exact fun h=>az0 nx.length [a] (fun c hc=>by simp at hc;subst hc;exact .refl) b h
 ·intro h
  induction h with
  | refl=>exact aW9 _ _ _ (by simp)
  | step _ hc ih=>exact bZ3 hg nx.length [a] (by simp) (fun c hc=>by simp at hc;subst hc;exact ha) (by simp) _ ih _ hc
theorem X7(nx:List (List Int))(stop:Nat→Bool):(as6 nx stop).length=nx.length:=by simp[as6]
theorem an4(nx:List (List Int))(stop:Nat→Bool)(a:Int):C1 (as6 nx stop) a=if stop a.toNat=true then[]else C1 nx a:=by
 unfold C1;rw[X7];by_cases h:0≤a∧a<nx.length
 ·have hl:a.toNat<nx.length:=by omega
  rw[if_pos h,if_pos h];unfold as6;rw[List.getD,du5,dz8 hl];simp
 ·rw[if_neg h,if_neg h];simp
theorem av0{nx:List (List Int)}(h:OkR nx)(stop:Nat→Bool):OkR (as6 nx stop):=by
 intro a b hb;rw[an4]at hb;rw[X7];split at hb
 ·simp at hb
 ·exact h a b hb
theorem cM4{nx:List (List Int)}(h:OkR nx){a b:Int}(ha:H1 nx.length a=true)(hw:Way nx a b):H1 nx.length b=true:=by
 cases hw with
 | refl=>exact ha
 | step _ hc=>exact h _ _ hc
theorem aR4{X Y:Rws}(h:leR X Y)(i:Int){x:A7}(hx:x∈F5 X i):x∈F5 Y i:=h _ x hx
theorem ct3(p:Pg){X Y:Rws}(h:leR X Y)(s:St){x:A7}(hx:x∈ak6 p X s):x∈ak6 p Y s:=by
 unfold ak6 at hx ⊢;split at hx
 ·rename_i h1;rw[if_pos h1];exact hx
 ·rename_i h1;rw[if_neg h1];split at hx
  ·rename_i h2;rw[if_pos h2];exact hx
  ·rename_i h2;rw[if_neg h2];split at hx
   ·rename_i h3;rw[if_pos h3];exact hx
   ·rename_i h3;rw[if_neg h3];split at hx
    ·rename_i h4;rw[if_pos h4];unfold aw6 at hx ⊢;rcases ds4.1 hx with hx|hx
     ·rcases ds4.1 hx with hx|hx
      ·exact dw4 _ (dw4 _ hx)
      ·refine dw4 _ (dC9 _ ?_);obtain⟨z,hz,rfl⟩:=dt7.1 hx;refine dt7.2 ⟨z,?_,rfl⟩;rw[dv2]at hz ⊢;refine⟨hz.1,?_⟩;rw[dt0,dt6]at hz ⊢;exact⟨hz.2.1,aR4 h _ hz.2.2⟩
     ·refine dC9 _ ?_;rw[dv2]at hx ⊢;exact⟨aR4 h _ hx.1,hx.2⟩
    ·simp at hx
theorem cD5(p:Pg){X Y:Rws}(h:leR X Y)(s:St){x:A7}(hx:x∈al2 p X s):x∈al2 p Y s:=by
 unfold al2 at hx ⊢;rcases ds4.1 hx with hx|hx
 ·exact dw4 _ hx
 ·refine dC9 _ ?_;split at hx
  ·rename_i h1;rw[if_pos h1];rcases ds4.1 hx with hx|hx
   ·exact dw4 _ hx
   ·exact dC9 _ (aR4 h _ hx)
  ·simp at hx
theorem bu7{l:List It}{f g:It→List A7}(h:∀it,∀x∈f it,x∈g it):leR (l.map fun it=>C9 (f it)) (l.map fun it=>C9 (g it)):=by
 intro i x hx;rw[List.getD,du5]at hx ⊢;cases hi:l[i]? with
 | none=>rw[hi]at hx;simp at hx
 | some it=>
  rw[hi]at hx;simp only[dx7,dw8]at hx ⊢;exact Q4.2 (h it x (Q4.1 hx))
theorem bb6{n:Nat}{f g:Nat→List A7}(h:∀i,i<n→∀x∈f i,x∈g i):leR ((List.range n).map fun i=>C9 (f i)) ((List.range n).map fun i=>C9 (g i)):=by
 intro i x hx;rw[List.getD,du5]at hx ⊢;rcases dv3 i n with hi|hi
 ·rw[dz8 hi]at hx ⊢;simp only[dx7,dw8]at hx ⊢;exact Q4.2 (h i hi x (Q4.1 hx))
 ·rw[dy9 (by simpa using hi)]at hx;simp at hx
theorem bb7{n B:Nat}{f:Nat→List A7}(m:Nat→List A7)(h:∀i,i<n→∀x∈f i,x∈m i)(hB:∀i,i<n→(m i).length≤B):L0 n B ((List.range n).map fun i=>C9 (f i)):=by
 refine⟨by simp,fun r hr=>?_,fun r hr=>?_⟩
 ·obtain⟨i,_,rfl⟩:=dt7.1 hr;exact Q5 _
 ·obtain⟨i,hi,rfl⟩:=dt7.1 hr;have hi':=dv0.1 hi;exact dr7 (M9 (aq3 (Q5 _)) fun x hx=>h i hi' x (Q4.1 hx)) (hB i hi')
theorem bw7{p:Pg}{i:Nat}{n:A7}(h:W3 p i n=true):n∈Y0::(p.globals++(p.procs.getD i bq6).params.map (·.name)):=by
 unfold W3 O7 at h;rw[dD2,dD2,dt6,dt6]at h;rcases h with(h|h)|h
 ·rw[dr0 h];simp
 ·simp[h]
 ·exact dx9 _ (dC9 _ (dt7.2 ⟨_,h,rfl⟩))
theorem O4{p:Pg}(hm:J6 p=true){i:Nat}(hi:i<p.procs.length):p.procs[i].params.length≤8:=by
 unfold J6 at hm;rw[dt0]at hm;have h2:=hm.2;have hgo:∀(l:List Pr) (n:Int),(l.foldlM (fun n f=>R3 f n) n).isSome=true→∀f∈l,f.params.length≤8:=by
  intro l
  induction l with
  | nil=>intro n _ f hf;simp at hf
  | cons g l ih=>
   intro n h f hf;rw[List.foldlM_cons]at h;obtain⟨k,hk⟩:=dw6.1 h;obtain⟨m,hm1,hm2⟩:=dx0.1 hk;rcases dt1.1 hf with rfl|hf
   ·unfold R3 at hm1;split at hm1
    ·cases hm1
    ·rename_i hc;omega
   ·exact ih m (by rw[hm2];rfl) f hf
 exact hgo _ _ h2 _ (dr5 hi)
theorem M7{p:Pg}(hm:J6 p=true):p.globals.length≤16∧p.procs.length≤16:=by
 unfold J6 at hm;simp only[dt0,du7]at hm;exact⟨hm.1.1.1,hm.1.1.2⟩
theorem co2{p:Pg}(hm:J6 p=true){i:Nat}(hi:i<p.procs.length):(Y0::(p.globals++(p.procs.getD i bq6).params.map (·.name))).length≤25:=by
 have h1:=O4 hm hi;have h2:=(M7 hm).1;rw[List.getD,dq7 hi];simp only[dt2,dr1,dr9,dw8];omega
theorem aQ3{p:Pg}{defs:Rws}{i:Nat}{x:A7}(h:x∈aa9 p defs i):W3 p i x=true:=by
 unfold aa9 at h;obtain⟨it,_,h⟩:=dw1.1 h;exact(dv2.1 h).2
theorem aM3{p:Pg}(hm:J6 p=true):az9 (F9 p) p.procs.length 25 where
 mono X Y h:=by
  refine bb6 fun i hi x hx=>?_;unfold aa9 at hx ⊢;obtain⟨it,hit,hx⟩:=dw1.1 hx;refine dw1.2 ⟨it,hit,?_⟩;rw[dv2]at hx ⊢;exact⟨aR4 (bu7 fun it x hx=>ct3 p h _ hx) _ hx.1,hx.2⟩
 ok X:=bb7 _ (fun i hi x hx=>bw7 (aQ3 hx)) fun i hi=>co2 hm hi
section
variable {wy:Wy} {outs:List A7} {uses uses' defs:Rws} {name:A7}
theorem bu9(hok:OkR wy.net)(hl:wy.net.length=wy.n.toNat)(h0:0<wy.n):ax6 wy outs uses defs name=true↔∃a:Nat,a<wy.n.toNat∧bR8 wy outs uses name a=true∧Way (as6 wy.net (aP2 wy uses defs name)) 0 a:=by
 unfold ax6;rw[dE3];constructor
 ·rintro⟨a,ha,h⟩;rw[dt0,bB9 (av0 hok _) (by rw[X7,hl];exact C3.2 ⟨by omega,by omega⟩)]at h;exact⟨a,dv0.1 ha,h⟩
 ·rintro⟨a,ha,h⟩;refine⟨a,dv0.2 ha,?_⟩;rw[dt0,bB9 (av0 hok _) (by rw[X7,hl];exact C3.2 ⟨by omega,by omega⟩)];exact h
theorem cx6(hok:OkR wy.net)(hl:wy.net.length=wy.n.toNat)(h0:0<wy.n)(hu:leR uses uses')(h:ax6 wy outs uses defs name=true):ax6 wy outs uses' defs name=true:=by
 rw[bu9 hok hl h0]at h ⊢;obtain⟨a,ha,hh,hw⟩:=h;have key:∀c,Way (as6 wy.net (aP2 wy uses defs name)) 0 c→Way (as6 wy.net (aP2 wy uses' defs name)) 0 c∨∃b:Nat,b<wy.n.toNat∧bR8 wy outs uses' name b=true∧Way (as6 wy.net (aP2 wy uses' defs name)) 0 b:=by
  intro c hc
  induction hc with
  | refl=>exact .inl .refl
  | @step b c hb hc ih=>
   rcases ih with ih|ih
   ·rw[an4]at hc;split at hc
    ·simp at hc
    ·rename_i hs;cases hs':aP2 wy uses' defs name b.toNat
     ·refine .inl (.step ih ?_);rw[an4,hs',if_neg (by simp)];exact hc
     ·right;have hbk:=cM4 (av0 hok _) (by rw[X7,hl];exact C3.2 ⟨by omega,by omega⟩) ih;rw[X7,hl]at hbk;obtain⟨b1,b2⟩:=C3.1 hbk;refine⟨b.toNat,by omega,?_,by rw[Int.toNat_of_nonneg b1];exact ih⟩;unfold aP2 at hs hs';unfold bR8;by_cases hN:((b.toNat:Nat):Int)=wy.n-1
      ·rw[du9 hN]at hs;simp at hs
      ·rw[du3 hN]at hs hs';rw[if_neg hN];simp only[dC4,dt0,dD2,not_and,not_or]at hs hs';rw[dt0];refine⟨hs'.1,?_⟩;rcases hs'.2 with h|h
       ·exact h
       ·exact absurd h (hs hs'.1).2
   ·exact .inr ih
 rcases key a hw with h|h
 ·refine⟨a,ha,?_,h⟩;unfold bR8 at hh ⊢;split at hh
  ·rename_i hN;rw[if_pos hN];exact hh
  ·rename_i hN;rw[if_neg hN];rw[dt0,dt6]at hh ⊢;exact⟨hh.1,aR4 hu _ hh.2⟩
 ·exact h
end
theorem aV1{p:Pg}(hm:J6 p=true)(outs defs:Rws)(hok:∀i,i<p.procs.length→OkR (E2 (b9 p) i).net∧(E2 (b9 p) i).net.length=(E2 (b9 p) i).n.toNat∧0<(E2 (b9 p) i).n):az9 (N9 p outs defs) p.procs.length 25 where
 mono X Y h:=by
  refine bb6 fun i hi x hx=>?_;unfold aA3 at hx ⊢;rw[dv2]at hx ⊢;obtain⟨h1,h2,h3⟩:=hok i hi;exact⟨hx.1,cx6 h1 h2 h3 (bu7 fun it x hx=>cD5 p h _ hx) hx.2⟩
 ok X:=bb7 (fun _=>p.globals++[Y0]) (fun i hi x hx=>(dv2.1 hx).1) fun i hi=>by
  have:=(M7 hm).1;simp only[dr1,du0];omega
theorem bF9{α:Type}(P:α→Bool):∀(l:List α) (i:Nat) {f:α},l.find? P=some f→∃k,l[k]?=some f∧V5 P i l=((i+k:Nat):Int)
 | [],i,f,h=>by simp at h
 | x::l,i,f,h=>by
  rw[List.find?_cons]at h;rw[V5];split at h
  ·next hx=>exact⟨0,by simpa using h,by rw[if_pos hx];rfl⟩
  ·next hx=>
   obtain⟨k,h1,h2⟩:=bF9 P l (i+1) h;exact⟨k+1,by simpa using h1,by rw[if_neg (by simp[hx]),h2];congr 1;omega⟩
structure aB5 (p:Pg) (s:St) (k:Nat):Prop where
 lt:k<p.procs.length
 idx:S5 p.procs s.proc=(k:Int)
 fn:cR9 p s.proc=p.procs[k]
 len:p.procs[k].params.length=s.args.length
 ref:∀j (h1:j<s.args.length) (h2:j<p.procs[k].params.length),p.procs[k].params[j].ref=s.args[j].ref
theorem cf1{α β:Type}(g:α×β→Bool):∀(l:List α) (m:List β),(l.zip m).all g=true→∀j (h1:j<l.length) (h2:j<m.length),g (l[j],m[j])=true
 | x::l,y::m,h,0,_,_=>by
  simp only[List.zip_cons_cons,List.all_cons,dt0]at h;exact h.1
 | x::l,y::m,h,j+1,h1,h2=>by
  simp only[List.zip_cons_cons,List.all_cons,dt0]at h;exact cf1 g l m h.2 j (by simpa using h1) (by simpa using h2)
theorem ad1{p:Pg}{s:St}(h:ad3 p s=true):∃k,aB5 p s k:=by
 unfold ad3 at h;rw[dt0]at h;cases hf:p.procs.find? fun f=>decide (f.name=s.proc)with
 | none=>rw[hf]at h;simp at h
 | some f=>
  rw[hf]at h;obtain⟨k,h1,h2⟩:=bF9 _ p.procs 0 hf;obtain⟨hk,rfl⟩:=dr4.1 h1;have h3:=h.2;unfold bl9 at h3;simp only[dt0,du7]at h3;have hidx:S5 p.procs s.proc=(k:Int):=by unfold S5;rw[h2];simp
  refine⟨k,hk,hidx,?_,h3.1,fun j h1 h2=>?_⟩
  ·unfold cR9;rw[hidx,dt5,List.getD,dq7 hk];rfl
  ·have:=cf1 _ _ _ h3.2 j h2 h1;simpa using this
theorem aB5.pr{p:Pg}{s:St}{k:Nat}(h:aB5 p s k):(b9 p).pr s.proc=(k:Int):=by
 unfold Sh.pr;rw[J0];exact h.idx
theorem bK4{α:Type}{l:List (List α)}{k:Nat}(hk:k<l.length):F5 l (k:Int)=l[k]:=by
 unfold F5;rw[dt5,List.getD,dq7 hk];rfl
theorem cn2{α:Type}{l:List (List α)}{k:Nat}(hk:k<l.length):l[k]?=some (F5 l (k:Int)):=by
 rw[bK4 hk,dq7 hk]
structure cf2 (p:Pg) (b:Bk):Prop where
 s:b.s=b9 p
 outs:L0 p.procs.length 25 b.outs
 ins:L0 p.procs.length 25 b.ins
theorem L0.row{n B:Nat}{X:Rws}(h:L0 n B X){k:Nat}(hk:k<n):X[k]?=some (F5 X (k:Int))∧(F5 X (k:Int)).Pairwise (fun a b=>ltS a b=true)∧(F5 X (k:Int)).length≤B:=by
 have hl:k<X.length:=by rw[h.len];exact hk
 have e:=bK4 hl;exact⟨cn2 hl,by rw[e];exact h.rise _ (dr5 hl),by rw[e];exact h.few _ (dr5 hl)⟩
theorem ag5{h:Hp}{w:World}{v:Value}{l:List A7}(ho:B0 h w 9 v l)(hl:l.length≤1000000000):
  p7 prog 74 #[v] w fun u w'=>(B0 h w' 9 u (C9 l)∧t8 (A4 v) w w'∧D7 w v u):=by
 refine p8 [v] func74 rfl ?_;simp only[i5,n8,simprocAttr];refine z7 (an7 ho hl) ?_;rintro _ w2 ⟨ho2,hm2⟩;simp only[i5,simprocAttr];refine z7 (aU3 ho2 (by rw[S3];exact hl)) ?_;rintro u w3 ⟨ho3,hm3,hmv⟩;simp only[i5,simprocAttr];refine o6 results74 ?_;simp only[p6,simprocAttr];refine⟨ho3,hm2.chain hm3 fun _ _ h=>h,fun b hb=>?_⟩;rcases hmv b hb with h|h
 ·exact .inl h
 ·exact .inr (dr7 hm2.size h)
theorem At.book{p:Pg}{h:Hp}{a:Addr}{b:Bk}(ha:At h a b)(hs:b.s=b9 p):∃(sh:Addr) (v2 v3 v4 v5 v6:Value),At h sh (b9 p)∧R h v2 b.wp∧R h v3 b.defs∧R h v4 b.uses∧R h v5 b.ins∧R h v6 b.outs ∧
  (∀w,B5 h (i4 w)→(Instr.loadAt 89 (.pointer (some a))).run prog w = .ok (.pointer (some sh)) w∧(Instr.loadAt 90 (.pointer (some (a.add 1)))).run prog w = .ok v2 w∧(Instr.loadAt 91 (.pointer (some (a.add 2)))).run prog w = .ok v3 w∧(Instr.loadAt 91 (.pointer (some (a.add 3)))).run prog w = .ok v4 w∧(Instr.loadAt 91 (.pointer (some (a.add 4)))).run prog w = .ok v5 w∧(Instr.loadAt 91 (.pointer (some (a.add 5)))).run prog w = .ok v6 w) ∧
  (∀(S:World→Prop) (w0:World),S w0→(∀w,S w→B5 h (i4 w))→(∀K f d w,I1 prog S (Instr.loadAt 89 (.pointer (some a))) K f d w=K (C4 f d (.pointer (some sh))) w)∧(∀K f d w,I1 prog S (Instr.loadAt 90 (.pointer (some (a.add 1)))) K f d w=K (C4 f d v2) w)∧(∀K f d w,I1 prog S (Instr.loadAt 91 (.pointer (some (a.add 2)))) K f d w=K (C4 f d v3) w)∧(∀K f d w,I1 prog S (Instr.loadAt 91 (.pointer (some (a.add 3)))) K f d w=K (C4 f d v4) w)∧(∀K f d w,I1 prog S (Instr.loadAt 91 (.pointer (some (a.add 4)))) K f d w=K (C4 f d v5) w)∧(∀K f d w,I1 prog S (Instr.loadAt 91 (.pointer (some (a.add 5)))) K f d w=K (C4 f d v6) w)):=by
 obtain⟨v1,v2,v3,v4,v5,v6,h1,h2,h3,h4,h5,h6,ld,sd⟩:=ha.bk;obtain⟨sh,rfl,has⟩:=Ptr.at_ h1;have e:At h sh (b9 p):=by rw[←hs];exact has
 exact⟨sh,v2,v3,v4,v5,v6,e,h2,h3,h4,h5,h6,ld,sd⟩
theorem cd2{P:Program}{h:Hp}{v u:Value}{t:TypeId}{k:Nat}(hc:I5 h (H2 v k)=some u)(ht:H6 P t=false)(S:World→Prop)(w0:World)(h0:S w0)(hS:∀w,S w→B5 h (i4 w)):
  ∀K f d w,I1 P S (Instr.loadAt t (.pointer (some (H2 v k)))) K f d w=K (C4 f d u) w:=fun K f d w=>D5 h0 fun w' h'=>G1 hc (hS w' h') ht
theorem aL1(a:Addr)(b:Bk)(p:Pg)(n:A7)(w:World)(ha:At (i4 w) a b)(hs:b.s=b9 p)(hmy:J6 p=true):
  p7 prog 110 #[.pointer (some a),o9 n] w fun u w'=>(u = .bool (O7 p n)∧w'=w):=by
 refine p8 [.pointer (some a),o9 n] func110 rfl ?_;obtain⟨sh,_,_,_,_,_,has,_,_,_,_,_,ldb,_⟩:=ha.book hs;obtain⟨_,_,_,_,_,_,hpg,_,_⟩:=has.sh;rw[J0]at hpg;obtain⟨vg,vp,hvg,hvp,ldp,_⟩:=hpg.pg;have lb:=ldb w (d7 _);have lp:=ldp w (d7 _);have hF:O7 p n=(decide (n=ofA #[36,105,110])||p.globals.contains n):=rfl;rcases dq8 (decide (n=ofA #[36,105,110]))with h1|h1
 ·simp only[i5,n8,simprocAttr,h1];refine o6 results110 ?_;simp only[p6,simprocAttr];exact⟨by rw[hF,h1];rfl,by trivial⟩
 ·simp only[i5,n8,simprocAttr,h1,lb,lp];refine C7 (O3 vg p.globals n w hvg (by have:=(M7 hmy).1;omega)) ?_;simp only[i5,simprocAttr];refine o6 results110 ?_;simp only[p6,simprocAttr];exact⟨by rw[hF,h1];rfl,by trivial⟩
theorem ao0(a:Addr)(b:Bk)(p:Pg)(v:Value)(s:St)(w:World)(ha:At (i4 w) a b)(hs:b.s=b9 p)(hmy:J6 p=true)(hv:SV (i4 w) v s):
  p7 prog 101 #[.pointer (some a),v] w fun u w'=>(u = .int .i64 ((b9 p).pr s.proc)∧o7 w w'):=by
 refine p8 [.pointer (some a),v] func101 rfl ?_;obtain⟨sh,_,_,_,_,_,has,_,_,_,_,_,_,sdb⟩:=ha.book hs;obtain⟨c,w1,hbx,hx1,hat⟩:=ah5 hv (d7 _);obtain⟨_,_,_,_,_,_,_,_,_,_,sds⟩:=hat.st;have hx1d:=hx1.trans (o7.drew w1);have s1:=sds (fun w'=>o7 w1.drew w') w1.drew (t8.refl _) fun w' h=>b7 ((o7.drew w1).trans h);have s2:=sdb (fun w'=>o7 w1.drew w') w1.drew (t8.refl _) fun w' h=>b7 (hx1d.trans h);simp only[i5,n8,simprocAttr,hbx];refine C0 (fun w'=>o7 w1.drew w') 6 (A9 [0,1,2,3,4,5]) ?_;simp only[D2,A9,i5,n8,simprocAttr,s1,s2];refine B2 (aq6 sh (b9 p) s.proc w1.drew (has.mono (b7 hx1d)) (by rw[J0];have:=(M7 hmy).2;omega)) (fun w2 hx2=>?_);simp only[i5,simprocAttr];refine o6 results101 ?_;simp only[p6,simprocAttr];exact⟨by trivial,hx1d.trans hx2⟩
def cE3:=zJ (zJ (zJ (zJ (zJ (zJ @dg9 @cX2) (zJ @cV1 (zJ @cX1 @dg7))) (zJ (zJ @cW9 @cX0) (zJ @dg8 (zJ @de0 @dd9)))) (zJ (zJ (zJ @de1 @de2) (zJ @cV5 (zJ @cV4 @cV6))) (zJ (zJ @cV7 @cZ1) (zJ @cZ0 (zJ @dh2 @dk6))))) (zJ (zJ (zJ (zJ @do4 @cW6) (zJ @dj6 (zJ @cW7 @dj7))) (zJ (zJ @dm8 @dp0) (zJ @cJ8 (zJ @db8 @cJ9)))) (zJ (zJ (zJ @db9 @dc0) (zJ @cT3 (zJ @cO5 @cO4))) (zJ (zJ @db7 @dn0) (zJ @dm9 (zJ @cT2 @dn2)))))) (zJ (zJ (zJ (zJ (zJ @dn1 @dj4) (zJ @cF0 (zJ @da9 @dm4))) (zJ (zJ @cJ6 @cW5) (zJ @cS8 (zJ @dl9 @dm5)))) (zJ (zJ (zJ @cW4 @dj3) (zJ @db1 (zJ @dj2 @ev.eq_1))) (zJ (zJ @ev.eq_2 @ev.eq_3) (zJ @ev.eq_4 (zJ @C4.eq_1 @C4.eq_2))))) (zJ (zJ (zJ (zJ @do2 @dm6) (zJ @dn4 (zJ @dn5 @List.map_cons.{0,0}))) (zJ (zJ @List.map_nil.{0,0} @List.map_toArray.{0,0}) (zJ @bE1.eq_1 (zJ @bE1.eq_2 @cS0)))) (zJ (zJ (zJ @di4 @di5) (zJ @cv3.eq_1 (zJ @List.getElem?_toArray.{0} @List.getElem?_cons_zero.{0}))) (zJ (zJ @List.getElem?_cons_succ.{0} @Option.bind_some.{0,0}) (zJ @Option.some.injEq.{0} (zJ @dx4 @Bool.true_eq_false))))))
theorem aD1{α β:Type}(P:α→Bool)(g:α→β)(l:List α){k:Nat}(hk:k<l.length):((l.take (k+1)).filter P).map g=((l.take k).filter P).map g++if P l[k]then[g l[k]]else[]:=by
 rw[dr6 hk,dy3,du1]
 congr 1
 cases h:P l[k]<;>simp[h]
theorem ai6{α:Type}(P:α→Bool)(l:List α){k:Nat}(hk:k<l.length):(l.take (k+1)).filter P=(l.take k).filter P++if P l[k]then[l[k]]else[]:=by
 rw[dr6 hk,dy3]
 congr 1
 cases h:P l[k]<;>simp[h]
theorem av5{h:Hp}{w:World}{v:Value}{l:List A7}(ho:B0 h w 9 v l)(x:A7)(hl:l.length≤100000000)(hw:B5 h (i4 w)){e:TypeId}:
  (Instr.buildSlice 22 1 #[(0,o9 x)]).run prog w = .ok (.slice (some ⟨w.heap.size,0,none⟩) 1 1) (w.alloc (.cells #[o9 x] 9)) ∧
  ∃v' w',(Builtin.append_ #[22,22] e #[v,.slice (some ⟨w.heap.size,0,none⟩) 1 1]).run prog (w.alloc (.cells #[o9 x] 9)) = .ok v' w'∧B0 h w' 9 v' (l++[x])∧t8 (A4 v) w w'∧D7 w v v':=by
 have:=push (P:=prog) (e:=e) ar6 rfl ho (x:=o9 x) (y:=x) rfl (by omega) (by omega) hw;exact this
theorem bO9(a:Addr)(b:Bk)(p:Pg)(v:Value)(s:St)(w:World)(ha:At (i4 w) a b)(hok:cf2 p b)(hmy:J6 p=true)(hv:SV (i4 w) v s)(hws:O6 s≤1000000)(hfit:ad3 p s=true):
  p7 prog 126 #[.pointer (some a),v] w fun u w'=>(B0 (i4 w) w' 9 u (aw6 p b.outs s)∧o7 w w'):=by
 refine p8 [.pointer (some a),v] func126 rfl ?_;obtain⟨k,hck⟩:=ad1 hfit;have hklt:=hck.lt;obtain⟨sh,_,_,_,_,vo,has,_,_,_,_,hvo,ldb,sdb⟩:=ha.book hok.s;obtain⟨_,_,_,_,_,_,hpg,_,_⟩:=has.sh;rw[J0]at hpg;obtain⟨vg,vp,hvg,hvp,ldp,sdp⟩:=hpg.pg;obtain⟨hrow,hrise,hfew⟩:=hok.outs.row hck.lt;have hpl:=O4 hmy hck.lt;have hF:aw6 p b.outs s=(if s.name=e0 then[]else[s.name])++(((s.args.zip p.procs[k].params).filter fun x=>x.1.ref&&(F5 b.outs (k:Int)).contains x.2.name).map fun x=>x.1.name)++(F5 b.outs (k:Int)).filter (O7 p):=by
  unfold aw6;rw[hck.fn,hck.idx]
 have hkp:=hck.pr;generalize F5 b.outs (k:Int)=row at hrow hrise hfew hF;obtain⟨uo,huo,hco⟩:=R.row hvo hrow;have hino:=hvo.inS (k:=k) (dr4.1 hrow).1;have hatp:=hvp.at_ (i:=k) (x:=p.procs[k]) (dq7 hck.lt);have hinp:=hvp.inS (k:=k) hck.lt;have hz5:A3.sz Pr=5:=rfl;rw[hz5]at hatp;obtain⟨vpa,_,_,_,hvpa,_,_,_,ldr,sdr⟩:=hatp.pr;obtain⟨c,w1,hbx,hx1,hat⟩:=ah5 hv (d7 _);obtain⟨_,va,_,_,_,hva,_,_,_,lds,_⟩:=hat.st;obtain⟨sv,hsv,ldsv,_⟩:=hat.st_v;have l1:=lds w1 (d7 _);have hlen:=hck.len;generalize hL1:(if s.name=e0 then[]else[s.name])=L1 at hF;have hL1l:L1.length≤1:=by rw[←hL1];split<;>simp
 simp only[cE3,n8,simprocAttr,hbx,l1];refine bI1 [0,3] (fun f' w'=>B0 (i4 w1) w' 9 (f' 5) L1∧o7 w1 w') ?_ ?_
 ·rcases dq8 (decide (s.name=ofA #[]))with h1|h1
  ·simp only[i5,n8,simprocAttr,h1];refine⟨?_,t8.refl _⟩;rw[←hL1,if_pos (dr0 h1)];exact B0.nil _ _ _
  ·obtain⟨p1,u2,w2,p2,p3,p4,p5⟩:=av5 (e:=22) (B0.nil (i4 w1) w1 9) s.name (by simp) (d7 _);simp only[i5,n8,simprocAttr,h1,l1,p1,p2];refine⟨?_,(B0.nil (α:=A7) (i4 w1) w1 9).ext2 (t8.refl _) p4⟩;rw[←hL1,if_neg (dr2 h1)];exact p3
 rintro f w2 hk ⟨ho,hx2⟩;simp only[dq9,p6,simprocAttr]at hk;obtain⟨e0',e3,_⟩:=hk;have l2:=ldsv w2 (b7 hx2);have hx02:=hx1.trans hx2;generalize h5:f 5=u2 at ho;simp only[i5,simprocAttr,e0',e3,l2];refine B2 (ao0 a b p sv s w2 (ha.mono (b7 hx02)) hok.s hmy (hsv.mono (b7 hx2))) (fun w3 hx3=>?_);rw[hkp];have l3:=lds w3 (b7 (hx2.trans hx3));have hSa:=hva.isS;have hna:=hva.vlen;have hzl:(s.args.zip p.procs[k].params).length=s.args.length:=by rw[List.length_zip];omega
 have hx13:=hx2.trans hx3;simp only[i5,n8,simprocAttr,e3,l3,hSa,hna];refine n9 [0,3,6,23,24] (σ:=Nat×Value) (fun s' f w'=>f 25 = .int .i64 s'.1∧f 5=s'.2∧s'.1≤s.args.length∧B0 (i4 w1) w' 9 s'.2 (L1++(((s.args.zip p.procs[k].params).take s'.1).filter fun x=>x.1.ref&&row.contains x.2.name).map fun x=>x.1.name)∧o7 w1 w') (fun s'=>s.args.length-s'.1) (0,u2) ?_ ?_
 ·simp only[p6,simprocAttr];exact⟨by trivial,h5,dr8 _,by simpa using ho.ext hx3,hx13⟩
 rintro⟨j,u⟩ f2 w4 hk ⟨h25,h5',hjl,ho4,hx4⟩;simp only at h25 h5' hjl ho4;simp only[dq9,p6,simprocAttr]at hk;obtain⟨g0,g3,g6,g23,g24,_⟩:=hk;rw[e0']at g0;have hx04:=hx1.trans hx4;have hcnt:((((s.args.zip p.procs[k].params).take j).filter fun x=>x.1.ref&&row.contains x.2.name).map fun x=>x.1.name).length≤j:=by
  rw[dr9];refine dr7 (dt9 _ _) ?_;rw[ds3];omega
 simp only[i5,n8,simprocAttr,h25,g24];refine m8 (fun hc=>?_) (fun hc=>?_)
 ·have hlt:j<s.args.length:=by simpa using hc
  have hltp:j<p.procs[k].params.length:=by omega
  have hltz:j<(s.args.zip p.procs[k].params).length:=by omega
  have hin:=hva.inS hlt;obtain⟨sv,hsv,hld⟩:=E4 (P:=prog) (t:=101) hva (b7 hx4) (dq7 hlt) az1 az3 at1 S4;rw[S4]at hld;have htk:=aD1 (fun x:Ar×Pa=>x.1.ref&&row.contains x.2.name) (fun x=>x.1.name) _ hltz;rw[List.getElem_zip]at htk;simp only at htk;have hatpa:=hvpa.at_ (i:=j) (x:=p.procs[k].params[j]) (dq7 hltp);have hinpa:=hvpa.inS (k:=j) hltp;have hz2:A3.sz Pa=2:=rfl;rw[hz2]at hatpa;obtain⟨ldpa,sdpa⟩:=hatpa.pa;generalize p.procs[k].params[j]=pa at hatpa ldpa sdpa htk;generalize s.args[j]=ag at hsv htk;obtain⟨d,wz,w5,hal5,hst5,hx5,hatg⟩:=aI6 (hsv.mono (b7 hx4)) (d7 _);obtain⟨_,ldg,sdg⟩:=hatg.ar;have hx05:=hx04.trans (hx5.trans (o7.drew w5));have t1:=sdg (fun w'=>o7 w5.drew w') w5.drew (t8.refl _) fun w' h=>b7 ((o7.drew w5).trans h);have hh:∀w',o7 w5.drew w'→B5 (i4 w) (i4 w'):=fun w' h=>b7 (hx05.trans h);have t2:=sdb (fun w'=>o7 w5.drew w') w5.drew (t8.refl _) hh;have t3:=sdp (fun w'=>o7 w5.drew w') w5.drew (t8.refl _) hh;have t4:=sdr (fun w'=>o7 w5.drew w') w5.drew (t8.refl _) hh;have t5:=sdpa (fun w'=>o7 w5.drew w') w5.drew (t8.refl _) hh;have t6:=cd2 (P:=prog) (t:=22) hco N0 (fun w'=>o7 w5.drew w') w5.drew (t8.refl _) hh;have hx45:=hx5.trans (o7.drew w5);have ho5:=ho4.ext hx45;have hend:(ag.ref&&row.contains pa.name)=false→∀w6,o7 w5.drew w6→∃s':Nat×Value,s.args.length-s'.1<s.args.length-j∧(Value.int .i64 (IntKind.i64.wrap ((j:Int)+1)) = .int .i64 s'.1∧u=s'.2∧s'.1≤s.args.length∧B0 (i4 w1) w6 9 s'.2 (L1++(((s.args.zip p.procs[k].params).take s'.1).filter fun x=>x.1.ref&&row.contains x.2.name).map fun x=>x.1.name)∧o7 w1 w6):=fun hf w6 hx6=>by
   refine⟨(j+1,u),by simp only[];omega,by rw[A8 j (by omega)],by trivial,by simp only[];omega,?_,hx4.trans (hx45.trans hx6)⟩;simp only[];rw[htk,hf,if_neg (by simp),du2];exact ho5.ext hx6
  rcases dq8 ag.ref with h1|h1;rotate_left
  ·rw[h1]at t1;simp only[i5,n8,z6,simprocAttr,h25,g23,hin,hld,hal5,hst5];refine C0 (fun w'=>o7 w5.drew w') 26 (A9 [0,1,2,3,4,5,6,7,8,9,10,11,12,13,14,15,16,17,18,19,20,21,22,23,24,25]) ?_;simp only[D2,A9,i5,n8,simprocAttr,t1,h25,h5'];exact hend (by rw[h1];rfl) _ (t8.refl _)
  ·rw[h1]at t1;simp only[i5,n8,z6,simprocAttr,h25,g23,hin,hld,hal5,hst5];refine C0 (fun w'=>o7 w5.drew w') 26 (A9 [0,1,2,3,4,5,6,7,8,9,10,11,12,13,14,15,16,17,18,19,20,21,22,23,24,25]) ?_;simp only[D2,A9,i5,n8,z6,simprocAttr,t1,t2,t3,t4,t5,t6,hino,hinp,hinpa,g0,g6];refine C7 (ab9 uo row pa.name w5.drew (A3.mono (b7 hx05) huo) (by omega) hrise) ?_;have hc2:(ag.ref&&row.contains pa.name)=row.contains pa.name:=by rw[h1];rfl
   rw[hc2]at htk hend;rcases dq8 (row.contains pa.name)with h2|h2;rotate_left
   ·simp only[i5,n8,simprocAttr,h2,h25,h5'];exact hend h2 _ (t8.refl _)
   ·have l5:=ldg w5.drew (b7 (o7.drew w5));obtain⟨p1,u6,w6,p2,p3,p4,p5⟩:=av5 (e:=22) ho5 ag.name (by rw[dr1];omega) (b7 (hx4.trans hx45));simp only[i5,n8,simprocAttr,h2,h25,h5',l5,p1,p2];refine⟨(j+1,u6),by simp only[];omega,by rw[A8 j (by omega)],by trivial,by simp only[];omega,?_,ho5.ext2 (hx4.trans hx45) p4⟩;simp only[];rw[htk,h2,if_pos rfl,←dt4];exact p3
 have hge:j=s.args.length:=by simp at hc;omega
 subst hge;rw[show(s.args.zip p.procs[k].params).take s.args.length=s.args.zip p.procs[k].params from dv8 (by omega)]at ho4;rw[show(s.args.zip p.procs[k].params).take s.args.length=s.args.zip p.procs[k].params from dv8 (by omega)]at hcnt;generalize hL2:L1++((s.args.zip p.procs[k].params).filter fun x=>x.1.ref&&row.contains x.2.name).map (fun x=>x.1.name)=L2 at ho4 hF;have hL2l:L2.length≤9:=by rw[←hL2,dr1];omega
 have lb4:=ldb w4 (b7 hx04);have hlr:=G1 (P:=prog) (t:=22) hco (b7 hx04) N0;have hSr:=huo.isS;have hnr:=huo.vlen;simp only[i5,n8,z6,simprocAttr,g0,g6,lb4,hino,hlr,hSr,hnr];refine n9 [0,70,71] (σ:=Nat×Value) (fun s' f w'=>f 72 = .int .i64 s'.1∧f 5=s'.2∧s'.1≤row.length∧B0 (i4 w1) w' 9 s'.2 (L2++(row.take s'.1).filter (O7 p))∧o7 w1 w') (fun s'=>row.length-s'.1) (0,u) ?_ ?_
 ·simp only[p6,simprocAttr];exact⟨by trivial,h5',dr8 _,by simpa using ho4,hx4⟩
 rintro⟨q,u6⟩ f6 w6 hk ⟨h72,h56,hql,ho6,hx6⟩;simp only at h72 h56 hql ho6;simp only[dq9,p6,simprocAttr]at hk;obtain⟨j0,j70,j71,_⟩:=hk;rw[g0]at j0;simp only[i5,n8,simprocAttr,h72,j71];refine m8 (fun hc=>?_) (fun hc=>?_);rotate_left
 ·have hge:q=row.length:=by simp at hc;omega
  subst hge;rw[ds2]at ho6;simp only[i5,simprocAttr,h56];refine o6 results126 ?_;simp only[p6,simprocAttr];exact⟨by rw[hF];exact ho6.back hx1,hx1.trans hx6⟩
 have hlt:q<row.length:=by simpa using hc
 have hinq:=huo.inS hlt;have hldq:(Instr.loadAt 9 (.pointer (some (H2 uo q)))).run prog w6 = .ok (o9 row[q]) w6:=M8 (P:=prog) (α:=A7) (xs:=row) huo (b7 (hx1.trans hx6)) (dq7 hlt) W4;have htk:=ai6 (O7 p) row hlt;have hcl:((row.take q).filter (O7 p)).length≤25:=dr7 (dt9 _ _) (by rw[ds3];omega);generalize row[q]=n at hldq htk;simp only[i5,n8,z6,simprocAttr,h72,j0,j70,hinq,hldq];refine C7 (aL1 a b p n w6 (ha.mono (b7 (hx1.trans hx6))) hok.s hmy) ?_;rcases dq8 (O7 p n)with h2|h2;rotate_left
 ·simp only[i5,n8,simprocAttr,h2,h72];refine⟨(q+1,u6),by simp only[];omega,by simp only[];rw[A8 q (by omega)],h56,by simp only[];omega,?_,hx6⟩;simp only[];rw[htk,h2,if_neg (by simp),du2];exact ho6
 ·obtain⟨p1,u7,w7,p2,p3,p4,p5⟩:=av5 (e:=22) ho6 n (by rw[dr1];omega) (b7 hx6);simp only[i5,n8,simprocAttr,h2,h72,h56,p1,p2];refine⟨(q+1,u7),by simp only[];omega,by simp only[];rw[A8 q (by omega)],by trivial,by simp only[];omega,?_,ho6.ext2 hx6 p4⟩;simp only[];rw[htk,h2,if_pos rfl,←dt4];exact p3
theorem cb8(x:A7)(w:World){h:Hp}(hw:B5 h (i4 w)):∃v w',(Instr.buildSlice 22 1 #[(0,o9 x)]).run prog w = .ok v w'∧B0 h w' 9 v [x]∧o7 w w'∧(∀b,A4 v b→w.heap.size≤b):=
 lit (P:=prog) (w:=w) (h:=h) (α:=A7) (xs:=[o9 x]) (ys:=[x]) (parts:=#[(0,o9 x)]) (n:=1) ar6 rfl (au4.2 rfl) (by simp[o9,Value.cells]) rfl rfl (by simp) (by simp) hw
theorem cx1(x y:A7)(w:World){h:Hp}(hw:B5 h (i4 w)):∃v w',(Instr.buildSlice 22 2 #[(0,o9 x),(1,o9 y)]).run prog w = .ok v w'∧B0 h w' 9 v [x,y]∧o7 w w'∧(∀b,A4 v b→w.heap.size≤b):=
 lit (P:=prog) (w:=w) (h:=h) (α:=A7) (xs:=[o9 x,o9 y]) (ys:=[x,y]) (parts:=#[(0,o9 x),(1,o9 y)]) (n:=2) ar6 rfl (au4.2 rfl) (by simp[o9,Value.cells]) rfl rfl (by simp) (by simp) hw
theorem ct4(a:Addr)(b:Bk)(p:Pg)(v:Value)(s:St)(w:World)(ha:At (i4 w) a b)(hok:cf2 p b)(hmy:J6 p=true)(hv:SV (i4 w) v s)(hws:O6 s≤1000000)(hfit:s.kind=4→ad3 p s=true):
  p7 prog 75 #[.pointer (some a),v] w fun u w'=>(B0 (i4 w) w' 9 u (ak6 p b.outs s)∧o7 w w'):=by
 refine p8 [.pointer (some a),v] func75 rfl ?_;obtain⟨c,w1,hbx,hx1,hat⟩:=ah5 hv (d7 _);obtain⟨_,va,_,_,_,hva,_,_,_,lds,_⟩:=hat.st;obtain⟨sv,hsv,ldsv,_⟩:=hat.st_v;have l1:=lds w1 (d7 _);have l2:=ldsv w1 (d7 _);have hF:ak6 p b.outs s=if s.kind=1 then[s.name]else if s.kind=2 then[s.name,Y0]else if s.kind=9 then[I3]else if s.kind=4 then aw6 p b.outs s else[]:=rfl;rcases dq8 (decide (s.kind=1))with k1|k1
 ·rw[if_pos (dr0 k1)]at hF;obtain⟨u,w2,q1,q2,q3,_⟩:=cb8 s.name w1 (b7 hx1);simp only[i5,n8,simprocAttr,hbx,l1,k1,q1];refine o6 results75 ?_;simp only[p6,simprocAttr];exact⟨by rw[hF];exact q2,hx1.trans q3⟩
 rw[if_neg (dr2 k1)]at hF;rcases dq8 (decide (s.kind=2))with k2|k2
 ·rw[if_pos (dr0 k2)]at hF;obtain⟨u,w2,q1,q2,q3,_⟩:=cx1 s.name Y0 w1 (b7 hx1);have q1':(Instr.buildSlice 22 2 #[(0,o9 s.name),(1,.string ⟨#[36,105,110]⟩)]).run prog w1 = .ok u w2:=q1;simp only[i5,n8,simprocAttr,hbx,l1,k1,k2,q1'];refine o6 results75 ?_;simp only[p6,simprocAttr];exact⟨by rw[hF];exact q2,hx1.trans q3⟩
 rw[if_neg (dr2 k2)]at hF;rcases dq8 (decide (s.kind=9))with k9|k9
 ·rw[if_pos (dr0 k9)]at hF;obtain⟨u,w2,q1,q2,q3,_⟩:=cb8 I3 w1 (b7 hx1);have q1':(Instr.buildSlice 22 1 #[(0,.string ⟨#[36,114,101,116]⟩)]).run prog w1 = .ok u w2:=q1;simp only[i5,n8,simprocAttr,hbx,l1,k1,k2,k9,q1'];refine o6 results75 ?_;simp only[p6,simprocAttr];exact⟨by rw[hF];exact q2,hx1.trans q3⟩
 rw[if_neg (dr2 k9)]at hF;rcases dq8 (decide (s.kind=4))with k4|k4
 ·rw[if_pos (dr0 k4)]at hF;simp only[i5,n8,simprocAttr,hbx,l1,k1,k2,k9,k4,l2];refine z7 (bO9 a b p sv s w1 (ha.mono (b7 hx1)) hok hmy hsv hws (hfit (dr0 k4))) ?_;rintro u w2 ⟨ho2,hx2⟩;simp only[i5,simprocAttr];refine o6 results75 ?_;simp only[p6,simprocAttr];exact⟨by rw[hF];exact ho2.back hx1,hx1.trans hx2⟩
 rw[if_neg (dr2 k4)]at hF;simp only[i5,n8,simprocAttr,hbx,l1,k1,k2,k9,k4];refine o6 results75 ?_;simp only[p6,simprocAttr];exact⟨by rw[hF];exact B0.nil _ _ _,hx1⟩
theorem cD6(a:Addr)(b:Bk)(p:Pg)(v:Value)(s:St)(w:World)(ha:At (i4 w) a b)(hok:cf2 p b)(hmy:J6 p=true)(hv:SV (i4 w) v s)(hws:O6 s≤1000000)(hfit:s.kind=4→ad3 p s=true):
  p7 prog 78 #[.pointer (some a),v] w fun u w'=>(B0 (i4 w) w' 9 u (al2 p b.ins s)∧o7 w w'):=by
 refine p8 [.pointer (some a),v] func78 rfl ?_;obtain⟨sh,_,_,_,vi,_,has,_,_,_,hvi,_,ldb,sdb⟩:=ha.book hok.s;obtain⟨c,w1,hbx,hx1,hat⟩:=ah5 hv (d7 _);obtain⟨_,va,_,_,_,hva,_,_,hatx,lds,sds⟩:=hat.st;obtain⟨sv,hsv,ldsv,sdsv⟩:=hat.st_v;obtain⟨ux,hux,lwx,_⟩:=hatx.ex_v;have lx1:=lwx w1 (d7 _);have hws':=hws;rw[P2]at hws';have hnx:=aa8 s.x;have hal:=ag9 s.args;have han:=M1 s.args;simp only[i5,n8,simprocAttr,hbx,lx1];refine z7 (ao1 ux s.x w1 hux (by omega)) ?_;rintro u2 w2 ⟨ho2,hx2⟩;have l2:=lds w2 (b7 hx2);generalize hP1:aa7 s.x++(if s.kind=2 then[Y0]else[])=P1;have hP1l:P1.length≤S6 s.x+1:=by
  rw[←hP1,dr1];have:(if s.kind=2 then[Y0]else[]).length≤1:=by split<;>simp
  omega
 have hF:al2 p b.ins s=P1++if s.kind=4 then s.args.flatMap J3++F5 b.ins (S5 p.procs s.proc)else[]:=by rw[←hP1];rfl
 simp only[cE3,n8,simprocAttr,l2];refine bI1 [0,3] (fun f' w'=>B0 (i4 w1) w' 9 (f' 5) P1∧o7 w1 w') ?_ ?_
 ·rcases dq8 (decide (s.kind=2))with k2|k2
  ·rw[if_pos (dr0 k2)]at hP1;obtain⟨p1,u3,w3,p2,p3,p4,p5⟩:=av5 (e:=22) ho2 Y0 (by omega) (b7 hx2);have p1':(Instr.buildSlice 22 1 #[(0,.string ⟨#[36,105,110]⟩)]).run prog w2=_:=p1;simp only[i5,simprocAttr,k2,p1',p2];exact⟨by rw[←hP1];exact p3,ho2.ext2 hx2 p4⟩
  ·rw[if_neg (dr2 k2)]at hP1;simp only[i5,simprocAttr,k2];exact⟨by rw[←hP1];simpa using ho2,hx2⟩
 rintro f w3 hk ⟨ho3,hx3⟩;simp only[dq9,p6,simprocAttr]at hk;obtain⟨e0',e3,_⟩:=hk;generalize h5:f 5=u3 at ho3;have l3:=lds w3 (b7 hx3);rcases dq8 (decide (s.kind=4))with k4|k4;rotate_left
 ·rw[if_neg (dr2 k4),du2]at hF;simp only[i5,n8,simprocAttr,e3,l3,k4,h5];refine o6 results78 ?_;simp only[p6,simprocAttr];exact⟨by rw[hF];exact ho3.back hx1,hx1.trans hx3⟩
 rw[if_pos (dr0 k4)]at hF;obtain⟨k,hck⟩:=ad1 (hfit (dr0 k4));have hSa:=hva.isS;have hna:=hva.vlen;simp only[i5,n8,simprocAttr,e3,l3,k4,hSa,hna];refine n9 [0,3,22,23] (σ:=Nat×Value) (fun s' f w'=>f 24 = .int .i64 s'.1∧f 5=s'.2∧s'.1≤s.args.length∧B0 (i4 w1) w' 9 s'.2 (P1++(s.args.take s'.1).flatMap J3)∧o7 w1 w') (fun s'=>s.args.length-s'.1) (0,u3) ?_ ?_
 ·simp only[p6,simprocAttr];exact⟨by trivial,h5,dr8 _,by simpa using ho3,hx3⟩
 rintro⟨j,u⟩ f2 w4 hk ⟨h24,h5',hjl,ho4,hx4⟩;simp only at h24 h5' hjl ho4;simp only[dq9,p6,simprocAttr]at hk;obtain⟨g0,g3,g22,g23,_⟩:=hk;rw[e0']at g0;rw[e3]at g3;have hpre:((s.args.take j).flatMap J3).length≤Z6 s.args:=dr7 (M1 _) (ar2 _ _);simp only[i5,n8,simprocAttr,h24,g23];refine m8 (fun hc=>?_) (fun hc=>?_)
 ·have hlt:j<s.args.length:=by simpa using hc
  have hin:=hva.inS hlt;obtain⟨sv,hsv,hld⟩:=E4 (P:=prog) (t:=101) hva (b7 hx4) (dq7 hlt) az1 az3 at1 S4;rw[S4]at hld;have htk:=I9 J3 s.args hlt;have hwm:=aI9 (dr5 hlt);have hpre2:((s.args.take (j+1)).flatMap J3).length≤Z6 s.args:=dr7 (M1 _) (ar2 _ _);rw[htk]at hpre2;generalize s.args[j]=y at hsv htk hwm hpre2;have hany:J3 y=(if y.ref then[y.name]else[])++aa7 y.x:=rfl;rw[hany]at hpre2;simp only[dr1]at hpre2;generalize(s.args.take j).flatMap J3=pre at ho4 hpre hpre2 htk;obtain⟨d,wz,w5,hal5,hst5,hx5,hatg⟩:=ce7 (w:=w4) (A4 u) hsv (fun b hb=>ho4.lt hb);obtain⟨uy,huy,hatyx,ldy,_⟩:=I2.ar hsv hatg;obtain⟨lwy,_⟩:=I2.ex_v huy hatyx;have ho5:=ho4.ext hx5;have hx15:=hx4.trans hx5;have l5:=ldy w5 (B3 _ _);have hlr:(if y.ref=true then[y.name]else[]).length≤1:=by split<;>simp
  simp only[cE3,n8,z6,simprocAttr,h24,g22,hin,hld,hal5,hst5,l5];refine bI1 [0,3,7,22,23,24] (fun f' w'=>B0 (i4 w1) w' 9 (f' 5) (P1++pre++if y.ref then[y.name]else[])∧t8 (A4 u) w5 w') ?_ ?_
  ·rcases dq8 y.ref with h1|h1
   ·obtain⟨p1,u6,w6,p2,p3,p4,p5⟩:=av5 (e:=22) ho5 y.name (by simp only[dr1];omega) (b7 hx15);rw[h1]at l5;simp only[i5,n8,simprocAttr,h1,l5,h5',p1,p2];exact⟨p3,p4⟩
   ·simp only[i5,simprocAttr,h1,h5'];exact⟨by simpa using ho5,t8.refl _⟩
  rintro f6 w6 hk ⟨ho6,hm6⟩;simp only[dq9,p6,simprocAttr]at hk;obtain⟨j0,j3,j7,j22,j23,j24,_⟩:=hk;rw[h24]at j24;generalize h56:f6 5=u6 at ho6;have hx16:o7 w1 w6:=t8.ext_of hx15 hm6 fun b hb=>D0 (ho5.free hb);have ly6:=lwy w6 (C8 hm6);simp only[i5,n8,simprocAttr,h56,j7,ly6];refine z7 (ao1 uy y.x w6 (huy.mono (b7 hx16)) (by unfold ak3 at hwm;omega)) ?_;rintro u8 w8 ⟨ho8,hx8⟩;obtain⟨u9,w9,c1,c2,c3,c4⟩:=aj1 (P:=prog) (e:=22) ar6 (ho6.ext hx8) (ho8.rw_ (b7 hx8)) (d7 _) (by simp only[dr1];omega) (by simp only[dr1];omega) (b7 (hx16.trans hx8));have hx19:o7 w1 w9:=t8.ext_of (hx16.trans hx8) c3 fun b hb=>D0 ((ho6.ext hx8).free hb);simp only[i5,n8,simprocAttr,c1,j24];refine⟨(j+1,u9),by simp only[];omega,by simp only[];rw[A8 j (by omega)],by trivial,by simp only[];omega,?_,hx19⟩;simp only[];rw[htk,hany];simp only[dt4]at c2 ⊢;exact c2
 have hge:j=s.args.length:=by simp at hc;omega
 subst hge;rw[ds2]at ho4 hpre;obtain⟨hrow,hrise,hfew⟩:=hok.ins.row hck.lt;rw[hck.idx]at hF;have hkp:=hck.pr;generalize F5 b.ins (k:Int)=row at hrow hrise hfew hF;obtain⟨ui,hui,hci⟩:=R.row hvi hrow;have hini:=hvi.inS (k:=k) (dr4.1 hrow).1;have hx4d:=hx4.trans (o7.drew w4);have hx04d:=hx1.trans hx4d;have hh1:∀w',o7 w4.drew w'→B5 (i4 w1) (i4 w'):=fun w' h=>b7 (hx4d.trans h);have hh0:∀w',o7 w4.drew w'→B5 (i4 w) (i4 w'):=fun w' h=>b7 (hx04d.trans h);have t1:=sdb (fun w'=>o7 w4.drew w') w4.drew (t8.refl _) hh0;have t2:=sdsv (fun w'=>o7 w4.drew w') w4.drew (t8.refl _) hh1;have t3:=cd2 (P:=prog) (t:=22) hci N0 (fun w'=>o7 w4.drew w') w4.drew (t8.refl _) hh0;simp only[i5,simprocAttr];refine C0 (fun w'=>o7 w4.drew w') 10 (A9 [0,1,2,3,4,5,6,7,8,9]) ?_;simp only[D2,A9,i5,n8,simprocAttr,g0,g3,h5',t1,t2];refine B2 (ao0 a b p sv s w4.drew (ha.mono (b7 hx04d)) hok.s hmy (hsv.mono (b7 hx4d))) (fun w5 hx5=>⟨hx5,?_⟩);rw[hkp];obtain⟨u9,w9,c1,c2,c3,c4⟩:=aj1 (P:=prog) (e:=22) ar6 (ho4.ext ((o7.drew w4).trans hx5)) hui (b7 (hx04d.trans hx5)) (by simp only[dr1];omega) (by simp only[dr1];omega) (b7 (hx4d.trans hx5));simp only[D2,i5,n8,z6,simprocAttr,hini,t3,c1];refine o6 results78 ?_;simp only[p6,simprocAttr];refine⟨?_,hx1.trans (t8.ext_of (hx4d.trans hx5) c3 fun b hb=>D0 (ho4.free hb))⟩;rw[hF,←dt4];exact c2.back hx1
def ar8(d:Nat)(xs ys:Array Value):List (Bool×TypeId×Nat)→Sem Bool
 | []=>pure true
 | (b,t,o)::l=>if b=true then do
   let x ←part t xs o
   let y ←part t ys o
   let r ←Op.equalIn d t x y
   if(!r)=true then pure false else ar8 d xs ys l
  else ar8 d xs ys l
theorem ar7(d:Nat)(xs ys:Array Value):∀fs:List Field,Op.eqFields d xs ys fs=ar8 d xs ys (fs.map fun f=>(decide (f.name ≠ "_"),f.type,f.offset))
 | []=>rfl
 | f::fs=>by
  rw[Op.eqFields,dv6,ar8,ar7 d xs ys fs];by_cases h:f.name = "_" <;> simp[h]
theorem P8{P:Program}{d:Nat}{xs ys:Array Value}{t o:Nat}{l:List (Bool×TypeId×Nat)}{a b:Value}{r r':Bool}(w:World)(hx:(part t xs o).run P w = .ok a w)(hy:(part t ys o).run P w = .ok b w)(hr:(Op.equalIn d t a b).run P w = .ok r w)(hl:(ar8 d xs ys l).run P w = .ok r' w):
  (ar8 d xs ys ((true,t,o)::l)).run P w = .ok (r&&r') w:=by
 rw[ar8,if_pos rfl];simp only[dt3,hx,hy,hr,ds6];cases r
 ·simp
 ·simpa using hl
theorem aC9{P:Program}{d:Nat}{xs ys:Array Value}(w:World):(ar8 d xs ys []).run P w = .ok true w:=rfl
theorem bh6(w:World)(d:Nat)(a b:A7):(Op.equalIn (d+1) 9 (o9 a) (o9 b)).run prog w = .ok (decide (a=b)) w:=by
 have:=run_equalIn_string (P:=prog) w d 9 ⟨a.b.toArray⟩ ⟨b.b.toArray⟩ Tryz.underlying9;rw[an8,an8,bf0]at this;exact this
theorem bh5(w:World)(d:Nat)(a b:Int):(Op.equalIn (d+1) 3 (.int .i64 a) (.int .i64 b)).run prog w = .ok (decide (a=b)) w:=by
 have:=run_equalIn_int (P:=prog) w d 3 .i64 .i64 a b Tryz.underlying3;rw[this];congr 1
theorem ci7(w:World)(d:Nat)(a b:Bool):(Op.equalIn (d+1) 4 (.bool a) (.bool b)).run prog w = .ok (decide (a=b)) w:=by
 have:=run_equalIn_bool' (P:=prog) w d 4 a b Tryz.underlying4;rw[this];cases a<;>cases b<;>rfl
theorem av3(cs:Array Value)(i:Nat)(v:Value)(h:cs[i]?=some v)(w:World):(part 9 cs i).run prog w = .ok v w:=aW5 (P:=prog) (t:=9) W4 (by kernel_rfl) h w
theorem av2(cs:Array Value)(i:Nat)(v:Value)(h:cs[i]?=some v)(w:World):(part 3 cs i).run prog w = .ok v w:=aW5 (P:=prog) (t:=3) F3 (by kernel_rfl) h w
theorem bv5(cs:Array Value)(i:Nat)(v:Value)(h:cs[i]?=some v)(w:World):(part 4 cs i).run prog w = .ok v w:=aW5 (P:=prog) (t:=4) ak1 (by kernel_rfl) h w
theorem cI0(w:World)(d:Nat)(p q:Pa):(Op.equalIn (d+2) 68 (.agg p.cells.toArray) (.agg q.cells.toArray)).run prog w = .ok (decide (p=q)) w:=by
 rw[run_equalIn_struct (P:=prog) w (d+1) 68 _ _ (by kernel_rfl) (by kernel_rfl),ar7];have hf:(prog.fieldsOf 68).toList.map (fun f=>(decide (f.name ≠ "_"),f.type,f.offset))=[(true,9,0),(true,4,1)]:=by kernel_rfl
 rw[hf,P8 w (av3 _ _ _ rfl w) (av3 _ _ _ rfl w) (bh6 w d _ _) (P8 w (bv5 _ _ _ rfl w) (bv5 _ _ _ rfl w) (ci7 w d _ _) (aC9 w))]
 congr 1
 cases p;cases q;simp[Pa.mk.injEq,Bool.decide_and]
theorem bz5(w:World)(d:Nat)(p q:Vx):(Op.equalIn (d+2) 36 (.agg p.cells.toArray) (.agg q.cells.toArray)).run prog w = .ok (decide (p=q)) w:=by
 rw[run_equalIn_struct (P:=prog) w (d+1) 36 _ _ (by kernel_rfl) (by kernel_rfl),ar7];have hf:(prog.fieldsOf 36).toList.map (fun f=>(decide (f.name ≠ "_"),f.type,f.offset))=[(true,9,0),(true,3,1),(true,3,2),(true,9,3)]:=by kernel_rfl
 rw[hf,P8 w (av3 _ _ _ rfl w) (av3 _ _ _ rfl w) (bh6 w d _ _) (P8 w (av2 _ _ _ rfl w) (av2 _ _ _ rfl w) (bh5 w d _ _) (P8 w (av2 _ _ _ rfl w) (av2 _ _ _ rfl w) (bh5 w d _ _) (P8 w (av3 _ _ _ rfl w) (av3 _ _ _ rfl w) (bh6 w d _ _) (aC9 w))))]
 congr 1
 cases p;cases q;simp[Vx.mk.injEq,Bool.decide_and]
theorem be8(cs:Array Value)(i:Nat)(v:Vx)(h:(cs.extract i (i+4))=v.cells.toArray)(w:World):(part 36 cs i).run prog w = .ok (.agg v.cells.toArray) w:=by
 refine bl8 (P:=prog) ?_ w;unfold bv4;rw[if_pos aF4,aB2,aF7,W5,h];rfl
theorem ca3(w:World)(d:Nat)(p q:Eg):(Op.equalIn (d+3) 60 (.agg p.cells.toArray) (.agg q.cells.toArray)).run prog w = .ok (decide (p=q)) w:=by
 rw[run_equalIn_struct (P:=prog) w (d+2) 60 _ _ (by kernel_rfl) (by kernel_rfl),ar7];have hf:(prog.fieldsOf 60).toList.map (fun f=>(decide (f.name ≠ "_"),f.type,f.offset))=[(true,36,0),(true,36,4),(true,3,8)]:=by kernel_rfl
 have e0:∀p:Eg,p.cells.toArray.extract 0 (0+4)=p.src.cells.toArray:=fun p=>rfl;have e4:∀p:Eg,p.cells.toArray.extract 4 (4+4)=p.dst.cells.toArray:=fun p=>rfl;rw[hf,P8 w (be8 _ _ _ (e0 p) w) (be8 _ _ _ (e0 q) w) (bz5 w d _ _) (P8 w (be8 _ _ _ (e4 p) w) (be8 _ _ _ (e4 q) w) (bz5 w d _ _) (P8 w (av2 _ _ _ rfl w) (av2 _ _ _ rfl w) (bh5 w (d+1) _ _) (aC9 w)))]
 congr 1
 cases p;cases q;simp[Eg.mk.injEq,Bool.decide_and]
theorem cR8(w:World)(x y:Operand)(p q:Pa):(do eqGuard .eql 68 x y (.agg p.cells.toArray) (.agg q.cells.toArray);binOp .eql 68 (.agg p.cells.toArray) (.agg q.cells.toArray):Sem Value).run prog w = .ok (.bool (decide (p=q))) w:=by
 have hg:=run_eqGuard_agg (P:=prog) w .eql 68 x y p.cells.toArray q.cells.toArray (by kernel_rfl);have he:=run_eql_struct (P:=prog) w 68 p.cells.toArray q.cells.toArray;simp only[dt3,hg,ds6,he,cI0 w 9998 p q]
theorem cu2(w:World)(x y:Operand)(p q:Vx):(do eqGuard .eql 36 x y (.agg p.cells.toArray) (.agg q.cells.toArray);binOp .eql 36 (.agg p.cells.toArray) (.agg q.cells.toArray):Sem Value).run prog w = .ok (.bool (decide (p=q))) w:=by
 have hg:=run_eqGuard_agg (P:=prog) w .eql 36 x y p.cells.toArray q.cells.toArray (by kernel_rfl);have he:=run_eql_struct (P:=prog) w 36 p.cells.toArray q.cells.toArray;simp only[dt3,hg,ds6,he,bz5 w 9998 p q]
theorem cR7(w:World)(x y:Operand)(p q:Eg):(do eqGuard .eql 60 x y (.agg p.cells.toArray) (.agg q.cells.toArray);binOp .eql 60 (.agg p.cells.toArray) (.agg q.cells.toArray):Sem Value).run prog w = .ok (.bool (decide (p=q))) w:=by
 have hg:=run_eqGuard_agg (P:=prog) w .eql 60 x y p.cells.toArray q.cells.toArray (by kernel_rfl);have he:=run_eql_struct (P:=prog) w 60 p.cells.toArray q.cells.toArray;simp only[dt3,hg,ds6,he,ca3 w 9997 p q]
theorem cS9(w:World)(x y:Operand)(p q:Eg):(do eqGuard .neq 60 x y (.agg p.cells.toArray) (.agg q.cells.toArray);binOp .neq 60 (.agg p.cells.toArray) (.agg q.cells.toArray):Sem Value).run prog w = .ok (.bool (!decide (p=q))) w:=by
 have hg:=run_eqGuard_agg (P:=prog) w .neq 60 x y p.cells.toArray q.cells.toArray (by kernel_rfl);have he:=run_neq_struct (P:=prog) w 60 p.cells.toArray q.cells.toArray;simp only[dt3,hg,ds6,he,ca3 w 9997 p q]
instance:A6 Pa:=⟨Pa.cells,fun _ _ _=>dy2⟩
theorem SV.N{α:Type}[A3 α][A6 α]{h:Hp}{v:Value}{x:α}(hv:SV h v x):v = .agg (A6.cells x).toArray:=by
 obtain⟨cs,rfl,h1⟩:=hv;rw[(A6.iff_ _ _ _).1 h1]
theorem V2{P:Program}{op:BinOp}{t:TypeId}{a b:Array Value}:B6 P op t (.agg a) (.agg b)=none:=by
 cases op<;>rfl
theorem bD9(v:Value)(l:List Pa)(x:Pa)(w:World)(hv:R (i4 w) v l)(hl:l.length≤1000000000):
  p7 prog 189 #[v,.agg x.cells.toArray] w fun u w'=>(u = .int .i64 (V5 (fun y=>decide (x=y)) 0 l)∧o7 w w'):=by
 refine p8 [v,.agg x.cells.toArray] func189 rfl ?_;have hS:=hv.isS;have hn:=hv.vlen;obtain⟨c,w1,hbx,hx1,hat⟩:=bY6 (SV.ofN (i4 w) x) (d7 _);obtain⟨sx,hsx,_,sdx⟩:=hat.pa_v;obtain rfl:=hsx.N;have hbx':(Instr.box 68 (.agg x.cells.toArray)).run prog w = .ok (.pointer (some c)) w1:=hbx;simp only[i5,n8,simprocAttr,hbx',hS,hn];refine n9 [0,3,6,7] (σ:=Nat) (fun k f w'=>f 8 = .int .i64 k∧k≤l.length∧(∀j (hj:j<l.length),j<k→decide (x=l[j])=false)∧o7 w1 w') (fun k=>l.length-k) 0 ?_ ?_
 ·simp only[p6,simprocAttr];exact⟨by trivial,dr8 _,fun j _ h=>by omega,t8.refl _⟩
 rintro k f w2 hk ⟨h8,hkl,hno,hx2⟩;simp only[dq9,p6,simprocAttr]at hk;obtain⟨e0,e3,e6,e7,_⟩:=hk;simp only[i5,n8,simprocAttr,h8,e7];refine m8 (fun hc=>?_) (fun hc=>?_);rotate_left
 ·have hge:k=l.length:=by simp at hc;omega
  subst hge;simp only[i5,simprocAttr];refine o6 results189 ?_;simp only[p6,simprocAttr];exact⟨by rw[au8 _ _ _ (be6 fun j hj=>hno j hj hj)],hx1.trans hx2⟩
 have hlt:k<l.length:=by simpa using hc
 have hin:=hv.inS hlt;have hx2d:=hx2.trans (o7.drew w2);have t1:=sdx (fun w'=>o7 w2.drew w') w2.drew (t8.refl _) fun w' h=>b7 (hx2d.trans h);have hate:=hv.at_ (i:=k) (x:=l[k]) (dq7 hlt);have hz2:A3.sz Pa=2:=rfl;rw[hz2]at hate;obtain⟨se,hse,_,sde⟩:=hate.pa_v;obtain rfl:=hse.N;have t2:=sde (fun w'=>o7 w2.drew w') w2.drew (t8.refl _) fun w' h=>b7 (hx1.trans (hx2d.trans h));have hql:=fun w0 a b=>cR8 w0 a b x l[k];rcases dq8 (decide (x=l[k]))with hq|hq
 ·simp only[i5,simprocAttr,h8];refine C0 (fun w'=>o7 w2.drew w') 5 (A9 [0,1,2,3,4]) ?_;simp only[D2,A9,i5,n8,z6,simprocAttr,e0,e3,hin,t1,t2];simp only[i5,simprocAttr,V2,A6.cells,hql,hq];refine o6 results189 ?_;simp only[p6,simprocAttr];exact⟨by rw[ap5 _ l 0 k hlt (fun j hj=>hno j (by omega) hj) hq,du4],hx1.trans hx2d⟩
 ·simp only[i5,simprocAttr,h8];refine C0 (fun w'=>o7 w2.drew w') 5 (A9 [0,1,2,3,4]) ?_;simp only[D2,A9,i5,n8,z6,simprocAttr,e0,e3,hin,t1,t2];simp only[i5,n8,simprocAttr,V2,A6.cells,hql,hq,h8];refine⟨k+1,by omega,by rw[A8 k (by omega)],by omega,fun j hj hjk=>?_,hx2d⟩;rcases dv3 j k with h|h
  ·exact hno j hj h
  ·obtain rfl:j=k:=by omega
   exact hq
theorem bH6{α:Type}(P:α→Bool):∀(l:List α) (i:Nat),decide (0≤V5 P i l)=l.any P
 | [],i=>by simp[V5]
 | x::l,i=>by
  rw[V5,List.any_cons];split
  ·next h=>simp[h]
  ·next h=>rw[bH6 P l (i+1)];simp[h]
theorem cq4{α:Type}[DecidableEq α](x:α):∀l:List α,(l.any fun y=>decide (x=y))=l.contains x
 | []=>rfl
 | y::l=>by
  rw[List.any_cons,cq4 x l,List.contains_cons];rfl
theorem ck2(v:Value)(l:List Pa)(x:Pa)(w:World)(hv:R (i4 w) v l)(hl:l.length≤1000000000):
  p7 prog 128 #[v,.agg x.cells.toArray] w fun u w'=>(u = .bool (l.contains x)∧o7 w w'):=by
 refine p8 [v,.agg x.cells.toArray] func128 rfl ?_;obtain⟨c,w1,hbx,hx1,hat⟩:=bY6 (SV.ofN (i4 w) x) (d7 _);obtain⟨sx,hsx,ldx,_⟩:=hat.pa_v;obtain rfl:=hsx.N;have hbx':(Instr.box 68 (.agg x.cells.toArray)).run prog w = .ok (.pointer (some c)) w1:=hbx;have l1:=ldx w1 (d7 _);simp only[i5,n8,simprocAttr,hbx',l1];refine B2 (bD9 v l x w1 (A3.mono (b7 hx1) hv) hl) (fun w2 hx2=>?_);simp only[i5,n8,simprocAttr];refine o6 results128 ?_;simp only[p6,simprocAttr];exact⟨by rw[bH6,cq4],hx1.trans hx2⟩
theorem ay1{α:Type}[A3 α]{h:Hp}{v:Value}{l:List (Ptr α)}(hv:R h v l){k:Nat}{p:Ptr α}(hk:l[k]?=some p):∃a,I5 h (H2 v k)=some (.pointer (some a))∧At h a p.to:=by
 obtain⟨_,es,he,hc⟩:=hv.get hk;obtain⟨a,es',rfl,h1,h2⟩:=he;have:=hc 0 _ rfl;rw[K0,show k*A3.sz (Ptr α)=k from dA7 k]at this;exact⟨a,this,es',h1,h2⟩
theorem cr5(n:A7)(b:Bool):B8 prog 68 [(0,o9 n),(1,.bool b)]=some (.agg (Pa.cells ⟨n,b⟩).toArray):=by
 simp[B8,cC2,J5,Instr.fill,Value.cells,o9,Pa.cells]
theorem aU6{α β:Type}(P:α→Bool)(g:α→List β):∀l:List α,(l.filter P).flatMap g=l.flatMap fun x=>if P x then g x else[]
 | []=>rfl
 | x::l=>by
  rw[List.filter_cons,dA4,←aU6 P g l];cases h:P x<;>simp
theorem W6{p:Pg}{i:Nat}(hi:i<p.procs.length):(J2 p)[i]?=some (E2 (b9 p) i):=by
 unfold J2;rw[du5,dz8 hi];rfl
theorem cy5(a:Addr)(b:Bk)(p:Pg)(i:Nat)(w:World)(ha:At (i4 w) a b)(hok:cf2 p b)(hways:b.ways=J2 p)(hdefs:L0 (b9 p).l.length 100 b.defs)(hr:E8 p)(hw:D1 p≤1000000)(hi:i<p.procs.length):
  p7 prog 76 #[.pointer (some a),.int .i64 i] w fun u w'=>(B0 (i4 w) w' 9 u (aa9 p b.defs i)∧o7 w w'):=by
 refine p8 [.pointer (some a),.int .i64 i] func76 rfl ?_;obtain⟨x,pt⟩:=O8 hr.may hw i hi;have hwy:=V0 pt;generalize x+A5 p.procs[i].body=y at pt hwy;have h200:=G9 hr.may;have hlen:=pt.ok.len;obtain⟨sh,vw,vd,_,_,_,has,hvw,hvd,_,_,_,ldb,sdb⟩:=ha.book hok.s;obtain⟨_,_,_,_,_,_,hpg,_,_⟩:=has.sh;rw[J0]at hpg;obtain⟨vg,vp,hvg,hvp,ldp,sdp⟩:=hpg.pg;obtain⟨aw,hcw,haw⟩:=ay1 (hv:=hvw) (k:=i) (p:=⟨E2 (b9 p) i⟩) (by unfold Bk.wp;rw[hways,du5,W6 hi];rfl);simp only at haw;have hinw:=hvw.inS (k:=i) (by unfold Bk.wp;rw[hways];unfold J2;simpa using hi);have lb:=ldb w (d7 _);have lp:=ldp w (d7 _);have hin:=hvp.inS hi;obtain⟨sv,hsv,hld⟩:=E4 (P:=prog) (t:=51) hvp (d7 _) (dq7 hi) ae2 ae5 ac8 I4;rw[I4]at hld;have hpl:=O4 hr.may hi;have hturn:∀n,W3 p i n=(O7 p n||p.procs[i].params.contains ⟨n,true⟩):=fun n=>by
  unfold W3;rw[List.getD,dq7 hi];rfl
 obtain⟨c,wz,w2,hal,hst,hx2,hatp⟩:=az8 hsv (d7 _);obtain⟨vpa,_,_,_,hvpa,_,_,_,ldr,_⟩:=hatp.pr;have lb2:=ldb w2 (b7 hx2);generalize p.procs[i].params=pas at hturn hvpa hpl;simp only[i5,n8,z6,simprocAttr,lb,lp,hin,hld,hal,hst,lb2];refine z7 (aF3 (i4 w) sh (b9 p) i x y w2 has (b7 hx2) pt.ok) ?_;rintro ui w3 ⟨hui,hx3⟩;have hids:=pt.ids;have hlens:((b9 p).of i).length≤200:=by
  have:=pt.ok.of_;rw[this,dy7,ds3];omega
 have hF:aa9 p b.defs i=((b9 p).of i).flatMap fun it=>if(E2 (b9 p) i).lives it.s.id then(F5 b.defs (it.s.id-1)).filter (W3 p i)else[]:=by
  unfold aa9;rw[aU6]
 generalize hHd:(fun it:It=>if(E2 (b9 p) i).lives it.s.id then(F5 b.defs (it.s.id-1)).filter (W3 p i)else[])=H at hF;have hH:∀it,H it=if(E2 (b9 p) i).lives it.s.id then(F5 b.defs (it.s.id-1)).filter (W3 p i)else[]:=fun it=>by rw[←hHd]
 have hdrow:∀it∈(b9 p).of i,∃q:Nat,it.s.id-1=(q:Int)∧q<(b9 p).l.length:=fun it hit=>by
  have:=hids it hit;exact⟨(it.s.id-1).toNat,by omega,by omega⟩
 generalize(b9 p).of i=l at hui hF hids hlens hdrow;have hHl:∀it∈l,(H it).length≤100:=fun it hit=>by
  rw[hH];split
  ·obtain⟨q,e,hq⟩:=hdrow it hit;rw[e];exact dr7 (dt9 _ _) (hdefs.row hq).2.2
  ·simp
 have hbt:∀k,((l.take k).flatMap H).length≤20000:=fun k=>by
  refine dr7 (S1 H 100 _ fun x hx=>hHl x (dz5 hx)) ?_;rw[ds3];have:min k l.length≤200:=by omega
  omega
 have hSi:=hui.isS;have hni:=hui.vlen;simp only[i5,n8,simprocAttr,hSi,hni];refine n9 [0,1,6,27,28] (σ:=Nat×Value) (fun s f w'=>f 29 = .int .i64 s.1∧f 5=s.2∧s.1≤l.length∧B0 (i4 w2) w' 9 s.2 ((l.take s.1).flatMap H)∧o7 w2 w') (fun s=>l.length-s.1) (0,.slice none 0 0) ?_ ?_
 ·simp only[p6,simprocAttr];exact⟨by trivial,by trivial,dr8 _,by simpa using B0.nil _ _ _,hx3⟩
 rintro⟨k,u⟩ f w4 hk ⟨h29,h5,hkl,ho,hx4⟩;simp only at h29 h5 hkl ho;simp only[dq9,p6,simprocAttr]at hk;obtain⟨e0,e1,e6,e27,e28,_⟩:=hk;have hpre:=hbt k;simp only[i5,n8,simprocAttr,h29,e28];refine m8 (fun hc=>?_) (fun hc=>?_);rotate_left
 ·have hge:k=l.length:=by simp at hc;omega
  subst hge;rw[ds2]at ho;simp only[i5,simprocAttr,h5];refine o6 results76 ?_;simp only[p6,simprocAttr];exact⟨by rw[hF];exact ho.back hx2,hx2.trans hx4⟩
 have hlt:k<l.length:=by simpa using hc
 clear hin hld hst hsv;have hin:=hui.inS hlt;obtain⟨sv,hsv,hld⟩:=E4 (P:=prog) (t:=121) hui (b7 (hx2.trans hx4)) (dq7 hlt) ab1 ab2 Z1 I7;rw[I7]at hld;have htk:=I9 H l hlt;have hmem:=dr5 hlt;have hid:=hids _ hmem;obtain⟨q,hqe,hq⟩:=hdrow _ hmem;have hHe:=hH l[k];generalize l[k]=it at hsv htk hid hqe hHe;generalize(l.take k).flatMap H=pre at ho hpre htk;obtain⟨d,wz5,w5,hal5,hst5,hx5,hati⟩:=az6 (hsv.mono (b7 (hx2.trans hx4))) (d7 _);obtain⟨hats,_,_⟩:=hati.it;obtain⟨_,_,_,_,_,_,_,_,_,_,sds⟩:=hats.st;have hx45:=hx5.trans (o7.drew w5);have hx25:=hx4.trans hx45;have hx05:=hx2.trans hx25;have ho5:=ho.ext hx45;have hh0:∀w',o7 w5.drew w'→B5 (i4 w) (i4 w'):=fun w' h=>b7 (hx05.trans h);have t1:=sds (fun w'=>o7 w5.drew w') w5.drew (t8.refl _) fun w' h=>b7 ((o7.drew w5).trans h);have t2:=sdb (fun w'=>o7 w5.drew w') w5.drew (t8.refl _) hh0;have t3:=cd2 (P:=prog) (t:=126) hcw az2 (fun w'=>o7 w5.drew w') w5.drew (t8.refl _) hh0;simp only[i5,n8,z6,simprocAttr,h29,e27,hin,hld,hal5,hst5];refine C0 (fun w'=>o7 w5.drew w') 10 (A9 [0,1,2,3,4,5,6,7,8,9]) ?_;simp only[D2,A9,i5,n8,z6,simprocAttr,e0,e1,t1,t2,t3,hinw];refine B2 (cf7 aw (E2 (b9 p) i) p i x y it.s.id w5.drew (haw.mono (b7 hx05)) hwy.toWyOk hid hwy.live) (fun w6 hx6=>?_);have hx26:=hx25.trans hx6;have ho6:=ho5.ext hx6;generalize(E2 (b9 p) i).lives it.s.id=lv at hHe;rcases dq8 lv with hlv|hlv<;>subst hlv;rotate_left
 ·simp only[i5,n8,simprocAttr,h29,h5];refine⟨(k+1,u),by simp only[];omega,by simp only[];rw[A8 k (by omega)],by trivial,by simp only[];omega,?_,hx26⟩;simp only[];rw[htk,hHe,if_neg (by simp),du2];exact ho6
 rw[if_pos rfl,hqe]at hHe;obtain⟨hrow,_,hfew⟩:=hdefs.row hq;generalize F5 b.defs (q:Int)=row at hrow hfew hHe;obtain⟨ud,hud,hcd⟩:=R.row hvd hrow;have hind:=hvd.inS (dr4.1 hrow).1;have hx26d:=hx26.trans (o7.drew w6);have hx06d:=hx2.trans hx26d;have hh6:∀w',o7 w6.drew w'→B5 (i4 w) (i4 w'):=fun w' h=>b7 (hx06d.trans h);have t4:=sds (fun w'=>o7 w6.drew w') w6.drew (t8.refl _) fun w' h=>b7 ((o7.drew w5).trans (hx6.trans ((o7.drew w6).trans h)));have t5:=sdb (fun w'=>o7 w6.drew w') w6.drew (t8.refl _) hh6;have t6:=cd2 (P:=prog) (t:=22) hcd N0 (fun w'=>o7 w6.drew w') w6.drew (t8.refl _) hh6;have hwq:IntKind.i64.wrap (it.s.id-1)=(q:Int):=by rw[hqe];exact K6 _ (by omega)
 have hSd:=hud.isS;have hnd:=hud.vlen;have ho6d:=ho6.ext (o7.drew w6);simp only[i5,n8,simprocAttr];refine C0 (fun w'=>o7 w6.drew w') 12 (A9 [0,1,2,3,4,5,6,7,8,9,10,11]) ?_;simp only[D2,A9,i5,n8,z6,simprocAttr,e0,t4,t5,t6,hwq,hind,hSd,hnd];refine n9 [0,1,6,27,28,29,54,55] (σ:=Nat×Value) (fun s f w'=>f 56 = .int .i64 s.1∧f 5=s.2∧s.1≤row.length∧B0 (i4 w2) w' 9 s.2 (pre++(row.take s.1).filter (W3 p i))∧o7 w2 w') (fun s=>row.length-s.1) (0,u) ?_ ?_
 ·simp only[p6,simprocAttr];exact⟨by trivial,h5,dr8 _,by simpa using ho6d,hx26d⟩
 rintro⟨m,u7⟩ f7 w7 hk ⟨h56,h57,hml,ho7,hx7⟩;simp only at h56 h57 hml ho7;simp only[dq9,p6,simprocAttr]at hk;obtain⟨j0,j1,j6,j27,j28,j29,j54,j55,_⟩:=hk;rw[e0]at j0;rw[e1]at j1;rw[e6]at j6;rw[h29]at j29;have hx07:=hx2.trans hx7;have hcl:((row.take m).filter (W3 p i)).length≤100:=dr7 (dt9 _ _) (by rw[ds3];omega);simp only[i5,n8,simprocAttr,h56,j55];refine m8 (fun hc2=>?_) (fun hc2=>?_);rotate_left
 ·have hge:m=row.length:=by simp at hc2;omega
  subst hge;rw[ds2]at ho7;simp only[i5,n8,simprocAttr,j29];refine⟨(k+1,u7),by simp only[];omega,by simp only[];rw[A8 k (by omega)],h57,by simp only[];omega,?_,hx7⟩;simp only[];rw[htk,hHe];exact ho7
 have hltm:m<row.length:=by simpa using hc2
 clear hin hld;have hin:=hud.inS hltm;have hld:=ldS hud (b7 hx07) hltm;have htm:=ai6 (W3 p i) row hltm;generalize row[m]=n at hld htm;rw[hturn]at htm;have hskip:(O7 p n||pas.contains ⟨n,true⟩)=false→∀w8,o7 w7 w8→∃s':Nat×Value,row.length-s'.1<row.length-m∧(Value.int .i64 (IntKind.i64.wrap ((m:Int)+1)) = .int .i64 s'.1∧u7=s'.2∧s'.1≤row.length∧B0 (i4 w2) w8 9 s'.2 (pre++(row.take s'.1).filter (W3 p i))∧o7 w2 w8):=fun hf w8 hx8=>by
  refine⟨(m+1,u7),by simp only[];omega,by rw[A8 m (by omega)],by trivial,by simp only[];omega,?_,hx7.trans hx8⟩;simp only[];rw[htm,hf,if_neg (by simp),du2];exact ho7.ext hx8
 have hpush:(O7 p n||pas.contains ⟨n,true⟩)=true→∀u8 w8,B0 (i4 w2) w8 9 u8 (pre++(row.take m).filter (W3 p i)++[n])→o7 w2 w8→∃s':Nat×Value,row.length-s'.1<row.length-m∧(Value.int .i64 (IntKind.i64.wrap ((m:Int)+1)) = .int .i64 s'.1∧u8=s'.2∧s'.1≤row.length∧B0 (i4 w2) w8 9 s'.2 (pre++(row.take s'.1).filter (W3 p i))∧o7 w2 w8):=fun hf u8 w8 ho8 hx8=>by
  refine⟨(m+1,u8),by simp only[];omega,by rw[A8 m (by omega)],by trivial,by simp only[];omega,?_,hx8⟩;simp only[];rw[htm,hf,if_pos rfl,←dt4];exact ho8
 simp only[i5,n8,z6,simprocAttr,h56,j0,j54,hin,hld];refine C7 (aL1 a b p n w7 (ha.mono (b7 hx07)) hok.s hr.may) ?_;rcases dq8 (O7 p n)with h1|h1
 ·obtain⟨p1,u8,w8,p2,p3,p4,p5⟩:=av5 (e:=22) ho7 n (by rw[dr1];omega) (b7 hx7);simp only[i5,n8,simprocAttr,h1,h56,h57,p1,p2];exact hpush (by rw[h1];rfl) _ _ p3 (ho7.ext2 hx7 p4)
 ·have lr7:=ldr w7 (b7 hx7);simp only[i5,n8,simprocAttr,h1,j6,lr7,cr5];refine B2 (ck2 vpa pas ⟨n,true⟩ w7 (A3.mono (b7 hx7) hvpa) (by omega)) (fun w8 hx8=>?_);rcases dq8 (pas.contains ⟨n,true⟩)with h2|h2
  ·obtain⟨p1,u9,w9,p2,p3,p4,p5⟩:=av5 (e:=22) (ho7.ext hx8) n (by rw[dr1];omega) (b7 (hx7.trans hx8));simp only[i5,n8,simprocAttr,h2,h56,h57,p1,p2];exact hpush (by rw[h1,h2];rfl) _ _ p3 ((ho7.ext hx8).ext2 (hx7.trans hx8) p4)
  ·simp only[i5,n8,simprocAttr,h2,h56,h57];exact hskip (by rw[h1,h2];rfl) _ hx8
structure NJ (M:Nat) (nx:List (List Int)) (hit:Nat→Bool) (todo:List Int) (seen:List Bool) (x:Int→Prop):Prop where
 len:seen.length=M
 td:∀c∈todo,H1 M c=true∧Way nx 0 c
 done:∀c:Int,H1 M c=true→(c=0∨B4 seen c=true)→c∈todo∨x c∨(hit c.toNat=false∧∀d∈C1 nx c,B4 seen d=true)
section
variable {M:Nat} {nx:List (List Int)} {hit:Nat→Bool} {todo:List Int} {seen:List Bool} {x:Int→Prop}
theorem NJ.start(h0:H1 M 0=true):NJ M nx hit [0] (List.replicate M false) (fun _=>False):=by
 refine⟨by simp,fun c hc=>?_,fun c _ hc=>?_⟩
 ·simp at hc;subst hc;exact⟨h0,.refl⟩
 ·rcases hc with rfl|hc
  ·exact .inl (by simp)
  ·rw[au0]at hc;cases hc
theorem NJ.pop{c:Int}(h:NJ M nx hit (todo++[c]) seen (fun _=>False)):NJ M nx hit todo seen (fun d=>d=c)∧H1 M c=true∧Way nx 0 c:=by
 refine⟨⟨h.len,fun d hd=>h.td d (dw4 _ hd),fun d hd hs=>?_⟩,h.td c (by simp)⟩;rcases h.done d hd hs with h1|h1|h1
 ·rcases ds4.1 h1 with h2|h2
  ·exact .inl h2
  ·exact .inr (.inl (by simpa using h2))
 ·exact h1.elim
 ·exact .inr (.inr h1)
theorem NJ.close{c:Int}(h:NJ M nx hit todo seen (fun d=>d=c))(hh:hit c.toNat=false)(hr:∀d∈C1 nx c,B4 seen d=true):NJ M nx hit todo seen (fun _=>False):=by
 refine⟨h.len,h.td,fun d hd hs=>?_⟩;rcases h.done d hd hs with h1|h1|h1
 ·exact .inl h1
 ·subst h1;exact .inr (.inr ⟨hh,hr⟩)
 ·exact .inr (.inr h1)
theorem NJ.push{d:Int}(h:NJ M nx hit todo seen x)(hd:H1 M d=true)(hw:Way nx 0 d):NJ M nx hit (todo++[d]) (seen.set d.toNat true) x:=by
 have hk:H1 seen.length d=true:=by rw[h.len];exact hd
 have hmono:∀e,B4 seen e=true→B4 (seen.set d.toNat true) e=true:=fun e he=>by
  rw[M6 hk];split
  ·rfl
  ·exact he
 refine⟨by rw[dy4,h.len],fun c hc=>?_,fun c hc hs=>?_⟩
 ·rcases ds4.1 hc with hc|hc
  ·exact h.td c hc
  ·simp at hc;subst hc;exact⟨hd,hw⟩
 ·by_cases hcd:c=d
  ·subst hcd;exact .inl (by simp)
  ·rw[M6 hk,if_neg hcd]at hs;rcases h.done c hc hs with h1|h1|h1
   ·exact .inl (dw4 _ h1)
   ·exact .inr (.inl h1)
   ·exact .inr (.inr ⟨h1.1,fun e he=>hmono e (h1.2 e he)⟩)
theorem NJ.fin(h:NJ M nx hit [] seen (fun _=>False))(hok:OkR nx)(hl:nx.length=M)(h0:H1 M 0=true):∀c,Way nx 0 c→hit c.toNat=false:=by
 have key:∀c,Way nx 0 c→H1 M c=true∧(c=0∨B4 seen c=true):=fun c hc=>by
  induction hc with
  | refl=>exact⟨h0,.inl rfl⟩
  | step _ hb ih=>
   refine⟨by rw[←hl];exact hok _ _ hb,.inr ?_⟩;rcases h.done _ ih.1 ih.2 with h1|h1|h1
   ·simp at h1
   ·exact h1.elim
   ·exact h1.2 _ hb
 intro c hc;obtain⟨h1,h2⟩:=key c hc;rcases h.done c h1 h2 with h3|h3|h3
 ·simp at h3
 ·exact h3.elim
 ·exact h3.1
end
theorem bS4{α:Type}{l:List α}{n:Nat}(h:l.length=n+1):∃(t:List α) (c:α),l=t++[c]∧t.length=n∧l[n]?=some c∧l.take n=t:=by
 have hn:n<l.length:=by omega
 refine⟨l.take n,l[n],?_,by rw[ds3];omega,dq7 hn,rfl⟩;have:=dr6 hn;rw[←this,dv8 (by omega)]
theorem cy8{α:Type}[A3 α]{h:Hp}{w:World}{T:TypeId}{v:Value}{xs:List α}(ho:B0 h w T v xs){i:Nat}(hi:i≤xs.length){sz:Nat}:
  B0 h w T (reS v 0 i sz) (xs.take i)∧∀b,A4 (reS v 0 i sz) b↔A4 v b:=by
 rcases ho with⟨rfl,rfl⟩|⟨b,c,cur,rfl,h1,h2,h3,h4,h5,h6⟩
 ·have:i=0:=by simpa using hi
  subst this;exact⟨.inl ⟨rfl,rfl⟩,fun b=>dy2⟩
 ·have e:reS (.slice (some ⟨b,0,none⟩) xs.length c) 0 i sz = .slice (some ⟨b,0,none⟩) i c:=by
   simp only[reS,Nat.zero_mul,dx7,Nat.sub_zero,K0,ite_self]
  rw[e];have hl:(xs.take i).length=i:=by rw[ds3];omega
  refine⟨.inr ⟨b,c,cur,by rw[hl],h1,h2,by omega,h4,h5,?_⟩,fun b'=>dy2⟩;rw[hl];have hs:xs=xs.take i++xs.drop i:=(dv5 i xs).symm;rw[hs]at h6;obtain⟨c1,c2,e1,e2,_⟩:=aa4 _ _ h6;have hlen:=J9 e2;rw[hl]at hlen;rw[←hs]at e1;have:cur.toList.take (i*A3.sz α)=c1:=by
   have h7:(cur.toList.take (xs.length*A3.sz α)).take (i*A3.sz α)=c1:=by rw[e1,←hlen,dA3]
   rw[List.take_take,dy0 (dz4 _ hi)]at h7;exact h7
  rw[this];exact e2
theorem cx7{p:Pg}{i x y:Nat}{wy:Wy}(hr:E8 p)(hw:D1 p≤1000000)(hi:i<p.procs.length)(hok:ao2 p i x y wy):OkR wy.net∧wy.net.length=wy.n.toNat∧∀r∈wy.net,r.length≤1000000:=by
 have hpr:=bg9 hr hw hi hok;have hdl:=aO3 hr hw hi hok;have hl:wy.net.length=wy.n.toNat:=aQ0 _ _;have e:wy.net=al8 wy.n.toNat (wy.pairs wy.data):=rfl;refine⟨fun a b hb=>?_,hl,fun r hr'=>?_⟩
 ·unfold C1 at hb;split at hb
  ·next ha=>
   have hm:wy.net.getD a.toNat []∈wy.net:=by
    rw[List.getD,dq7 (by omega)];exact dr5 _
   rw[e]at hm;obtain⟨t,ht,rfl⟩:=(aQ1 hm).2 b hb;have:=(hpr t ht).2;rw[hl];exact C3.2 ⟨by omega,by omega⟩
  ·simp at hb
 ·rw[e]at hr';have h1:=(aQ1 hr').1;have h2:(wy.pairs wy.data).length=wy.data.length:=dr9 _;omega
theorem cm3(a:Addr)(b:Bk)(p:Pg)(i:Nat)(vn:Value)(name:A7)(w:World)(ha:At (i4 w) a b)(hok:cf2 p b)(hways:b.ways=J2 p)(hdefs:L0 (b9 p).l.length 100 b.defs)(huses:L0 (b9 p).l.length 2000000 b.uses)
  (hr:E8 p) (hw:D1 p≤1000000) (hi:i<p.procs.length) (hvn:R (i4 w) vn (E2 (b9 p) i).net) :
  p7 prog 131 #[.pointer (some a),.int .i64 i,vn,o9 name] w fun u w'=>(u = .bool (ax6 (E2 (b9 p) i) (F5 b.outs i) b.uses b.defs name)∧o7 w w'):=by
 refine p8 [.pointer (some a),.int .i64 i,vn,o9 name] func131 rfl ?_;obtain⟨x,pt⟩:=O8 hr.may hw i hi;have hwy:=V0 pt;generalize x+A5 p.procs[i].body=y at pt hwy;have h200:=G9 hr.may;have hlen:=pt.ok.len;have hle':=pt.ok.le;have hn:=hwy.n;obtain⟨hnok,hnl,hnr⟩:=cx7 hr hw hi hwy;obtain⟨sh,vw,vd,vu,_,vo,has,hvw,hvd,hvu,_,hvo,ldb,_⟩:=ha.book hok.s;obtain⟨aw,hcw,haw⟩:=ay1 (hv:=hvw) (k:=i) (p:=⟨E2 (b9 p) i⟩) (by unfold Bk.wp;rw[hways,du5,W6 hi];rfl);simp only at haw;have hinw:=hvw.inS (k:=i) (by unfold Bk.wp;rw[hways];unfold J2;simpa using hi);obtain⟨horow,horise,hofew⟩:=hok.outs.row hi;generalize E2 (b9 p) i=wy at hwy hn hnok hnl hnr hvn haw ⊢;have hnn:wy.n=((wy.n.toNat:Nat):Int):=by omega
 have hM2:2≤wy.n.toNat:=by omega
 have hM200:wy.n.toNat≤202:=by omega
 have hplace:=hwy.toWyOk.place;have hnd:=bu9 (outs:=F5 b.outs i) (uses:=b.uses) (defs:=b.defs) (name:=name) hnok hnl (by omega);have hhit:∀c:Nat,bR8 wy (F5 b.outs i) b.uses name c=if(c:Int)=wy.n-1 then(F5 b.outs i).contains name else !decide (c=0)&&(F5 b.uses (wy.place c-1)).contains name:=fun c=>rfl;have hhalt:∀c:Nat,aP2 wy b.uses b.defs name c=(decide ((c:Int)=wy.n-1) || !decide (c=0)&&((F5 b.uses (wy.place c-1)).contains name||(F5 b.defs (wy.place c-1)).contains name)):=fun c=>rfl;generalize bR8 wy (F5 b.outs i) b.uses name=hit at hnd hhit;generalize aP2 wy b.uses b.defs name=halt at hnd hhalt;generalize ax6 wy (F5 b.outs i) b.uses b.defs name=res at hnd ⊢;obtain⟨uo,huo,hco⟩:=R.row hvo horow;have hino:=hvo.inS (dr4.1 horow).1;have hsok:=av0 hnok halt;have hsl:=X7 wy.net halt;have hsrow:=an4 wy.net halt;rw[hnl]at hsl;generalize as6 wy.net halt=nx at hnd hsok hsl hsrow;obtain⟨_,_,_,_,_,_,ldw,_⟩:=haw.wy;generalize hM:wy.n.toNat=M at hnd hnl hsl hnn hM2 hM200;have h0:H1 M 0=true:=C3.2 ⟨by omega,by omega⟩;obtain⟨ib,hib,hib1⟩:=aS5 (P:=prog) U1 aF6;have lb:=ldb w (d7 _);have lw:=ldw w (d7 _);have hlw:=G1 (P:=prog) (t:=126) hcw (d7 _) az2;obtain⟨vs,w1,hmk,hos,hx1,hfr1,_⟩:=mk (P:=prog) (w:=w) (h:=i4 w) (α:=Bool) bq9 U1 (y:=false) rfl (n:=M) (by omega) (by omega) (d7 _);rw[←hnn]at hmk;obtain⟨vt,w2,hl2,hot,hx2,hfr2⟩:=lit (P:=prog) (w:=w1) (h:=i4 w) (α:=Int) (xs:=[.int .i64 0]) (ys:=[0]) (parts:=#[(0,.int .i64 0)]) (n:=1) ae1 rfl (L8.2 rfl) (by simp[Value.cells]) rfl rfl (by simp) (by simp) (b7 hx1);have hwn1:IntKind.i64.wrap (wy.n-1)=((M-1:Nat):Int):=by rw[K6 _ (by omega)];omega
 simp only[i5,n8,z6,simprocAttr,lb,hinw,hlw,lw,hmk,hl2];refine n9 [0,1,2,3,9,10] (σ:=Value×List Int×List Bool) (fun s f w'=>f 11=s.1∧B0 (i4 w) w' 3 s.1 s.2.1∧B0 (i4 w) w' 4 vs s.2.2∧(∀b,A4 s.1 b→¬A4 vs b)∧o7 w w'∧NJ M nx hit s.2.1 s.2.2 (fun _=>False)∧s.2.1.length+s.2.2.count false≤203) (fun s=>s.2.1.length+s.2.2.count false) (vt,[0],List.replicate M false) ?_ ?_
 ·simp only[p6,simprocAttr];refine⟨by trivial,hot,hos.ext hx2,fun b hb hb2=>?_,hx1.trans hx2,NJ.start h0,by simp only[du0];have:=List.count_le_length (a:=false) (l:=List.replicate M false);rw[dv9]at this;omega⟩;have:=hos.lt hb2;have:=hfr2 b hb;omega
 rintro⟨v,todo,seen⟩ f w3 hk ⟨h11,ho,hos3,hdj,hx3,hJ,hbd⟩;simp only at h11 ho hos3 hdj hJ hbd;simp only[dq9,p6,simprocAttr]at hk;obtain⟨e0,e1,e2,e3,e9,e10,_⟩:=hk;have hSt:=ho.isS;have hnt:=ho.vlen;have hcap:=ho.vcap;have hslen:=hJ.len;simp only[i5,n8,simprocAttr,h11,hSt,hnt];refine m8 (fun hc=>?_) (fun hc=>?_);rotate_left
 ·have ht0:todo=[]:=by
   have:¬(0:Int)<(todo.length:Int):=by simpa using hc
   exact List.length_eq_zero_iff.1 (by omega)
  subst ht0;have hno:=hJ.fin hsok hsl h0;have hres:res=false:=by
   cases hrs:res with
   | false=>rfl
   | true=>
    obtain⟨c,hc1,hc2,hc3⟩:=hnd.1 hrs;have:=hno _ hc3;rw[dt5,hc2]at this;cases this
  simp only[i5,simprocAttr];refine o6 results131 ?_;simp only[p6,simprocAttr];exact⟨by rw[hres],hx3⟩
 obtain⟨n,hn1⟩:∃n,todo.length=n+1:=⟨todo.length-1,by have:(0:Int)<(todo.length:Int):=by simpa using hc
                                                     omega⟩
 obtain⟨td,c,rfl,htl,htc,htt⟩:=bS4 hn1;obtain⟨hJ2,hck,hcw2⟩:=hJ.pop;obtain⟨hc0,hcM⟩:=C3.1 hck;obtain⟨C,rfl⟩:∃C:Nat,c=(C:Int):=⟨c.toNat,by omega⟩;have hCM:C<M:=by omega
 have hwl:IntKind.i64.wrap (((n+1:Nat):Int)-1)=(n:Int):=by rw[K6 _ (by omega)];omega
 rw[hn1]at hnt;have hin:=ho.inS (k:=n) (by omega);have hld:(Instr.loadAt 3 (.pointer (some (H2 v n)))).run prog w3 = .ok (.int .i64 (C:Int)) w3:=D4 (P:=prog) ho htc F3;obtain⟨hot2,hblk⟩:=cy8 (sz:=1) ho (i:=n) (by omega);rw[htt]at hot2;have hcapd:decide ((n:Int)≤(vcap v:Int))=true:=by simp;omega
 have hdj2:∀b,A4 (reS v 0 n 1) b→¬A4 vs b:=fun b hb=>hdj b ((hblk b).1 hb);have lw3:=ldw w3 (b7 hx3);have lb3:=ldb w3 (b7 hx3);have hlr:=G1 (P:=prog) (t:=22) hco (b7 hx3) N0;generalize hv2:reS v 0 n 1=v2 at hot2 hdj2;have hmeas:td.length+seen.count false<(td++[(C:Int)]).length+seen.count false:=by rw[dr1];simp
 have hbd2:td.length+seen.count false≤203:=by omega
 have hhC:=hhit C;have hlC:=hhalt C;have hrC:=hsrow (C:Int);rw[dt5]at hrC;have hcont:halt C=true→hit C=false→NJ M nx hit td seen (fun _=>False):=fun h1 h2=>hJ2.close h2 (by rw[hrC,if_pos h1];simp);have hyes:hit C=true→res=true:=fun h1=>hnd.2 ⟨C,hCM,h1,hcw2⟩;have hCe:decide ((C:Int)=((M-1:Nat):Int))=decide ((C:Int)=wy.n-1):=by rw[dv1];omega
 rcases dq8 (decide ((C:Int)=((M-1:Nat):Int)))with hq|hq
 ·have hq':(C:Int)=wy.n-1:=by rw[hCe]at hq;exact dr0 hq
  rw[if_pos hq']at hhC;rw[du9 hq']at hlC;simp only[i5,n8,z6,I0,simprocAttr,h11,hSt,hnt,hwl,hin,hld,hcapd,hv2,e9,lw3,hwn1,hq,e0,e1,e3,lb3,hino,hlr];refine C7 (ab9 uo _ name w3 (A3.mono (b7 hx3) huo) (by omega) horise) ?_;rw[←hhC];rcases dq8 (hit C)with h1|h1
  ·simp only[i5,simprocAttr,h1];refine o6 results131 ?_;simp only[p6,simprocAttr];exact⟨by rw[hyes h1],hx3⟩
  ·simp only[i5,simprocAttr,h1];exact⟨(v2,td,seen),hmeas,by trivial,hot2,hos3,hdj2,hx3,hcont hlC h1,hbd2⟩
 have hq':¬(C:Int)=wy.n-1:=by rw[hCe]at hq;exact dr2 hq
 rw[if_neg hq']at hhC;rw[du3 hq',dC4]at hlC;simp only[cE3,n8,z6,I0,simprocAttr,h11,hSt,hnt,hwl,hin,hld,hcapd,hv2,e9,lw3,hwn1];rw[co5];simp only[cE3,n8,simprocAttr,hq];refine bI1 [0,1,2,3,9,10,11,12] (fun f' w'=>hit C=false∧halt C=false∧o7 w3 w') ?_ ?_
 ·rcases Nat.eq_zero_or_pos C with hC0|hC0
  ·subst hC0;simp only[i5,n8,simprocAttr];exact⟨by rw[hhC];simp,by rw[hlC];simp,t8.refl _⟩
  ·have hdC:decide ((0:Int)<(C:Int))=true:=by simpa using hC0
   have hC0':(!decide (C=0))=true:=by simp;omega
   obtain⟨q,hqe,hqL⟩:∃q:Nat,wy.place (C:Int)-1=(q:Int)∧q<(b9 p).l.length:=by
    refine⟨x+C-1,?_,by omega⟩;rw[hplace,if_neg (by omega),if_neg hq'];omega
   have hwq:IntKind.i64.wrap (wy.place (C:Int)-1)=(q:Int):=by rw[hqe];exact K6 _ (by omega)
   rw[hqe,hC0',dy1]at hhC hlC;obtain⟨hurow,hurise,hufew⟩:=huses.row hqL;obtain⟨hdrow,hdrise,hdfew⟩:=hdefs.row hqL;generalize F5 b.uses (q:Int)=ur at hurow hurise hufew hhC hlC;generalize F5 b.defs (q:Int)=dr at hdrow hdrise hdfew hlC;obtain⟨uu,huu,hcu⟩:=R.row hvu hurow;obtain⟨ud,hud,hcd⟩:=R.row hvd hdrow;have hinu:=hvu.inS (dr4.1 hurow).1;have hind:=hvd.inS (dr4.1 hdrow).1;simp only[i5,simprocAttr,hdC,e9];refine B2 (ab5 aw wy p i x y (C:Int) w3 (haw.mono (b7 hx3)) hwy.toWyOk (by omega)) (fun w4 hx4=>?_);have hx04:=hx3.trans hx4;have lb4:=ldb w4 (b7 hx04);have hlu:=G1 (P:=prog) (t:=22) hcu (b7 hx04) N0;have hlD:=G1 (P:=prog) (t:=22) hcd (b7 hx04) N0;simp only[i5,n8,z6,simprocAttr,e0,e3,lb4,hwq,hinu,hlu];refine C7 (ab9 uu ur name w4 (A3.mono (b7 hx04) huu) (by omega) hurise) ?_;rcases dq8 (ur.contains name)with h1|h1
   ·simp only[i5,simprocAttr,h1];refine o6 results131 ?_;simp only[p6,simprocAttr];exact⟨by rw[hyes (by rw[hhC];exact h1)],hx04⟩
   rw[h1]at hhC;rw[h1,dC4]at hlC;simp only[i5,n8,z6,simprocAttr,h1,e0,e3,lb4,hwq,hind,hlD];refine C7 (ab9 ud dr name w4 (A3.mono (b7 hx04) hud) (by omega) hdrise) ?_;rcases dq8 (dr.contains name)with h2|h2
   ·rw[h2]at hlC;simp only[i5,simprocAttr,h2];exact⟨(v2,td,seen),hmeas,by trivial,hot2.ext hx4,hos3.ext hx4,hdj2,hx04,hcont hlC hhC,hbd2⟩
   ·rw[h2]at hlC;simp only[i5,simprocAttr,h2];exact⟨hhC,hlC,hx4⟩
 rintro f4 w4 hk ⟨hh0,hl0,hx4⟩;simp only[dq9,p6,simprocAttr]at hk;obtain⟨r0,r1,r2,r3,r9,r10,r11,r12,_⟩:=hk;rw[e0]at r0;rw[e1]at r1;rw[e2]at r2;rw[e3]at r3;rw[e9]at r9;rw[e10]at r10;rw[hl0,if_neg (by simp)]at hrC;have hrF:C1 wy.net (C:Int)=wy.net.getD C []:=by
  unfold C1;rw[if_pos ⟨by omega,by omega⟩,dt5]
 rw[hrF]at hrC;have hgR:wy.net[C]?=some (wy.net.getD C []):=by rw[List.getD,dq7 (by omega)];rfl
 have hrl:=hnr _ (ds9 hgR);have hinR:=hvn.inS (dr4.1 hgR).1;obtain⟨uR,huR,hcR⟩:=R.row hvn hgR;have hrk:∀d∈wy.net.getD C [],H1 M d=true:=fun d hd=>by
  have:=hnok (C:Int) d (by rw[hrF];exact hd);rw[hnl]at this;exact this
 generalize wy.net.getD C []=row at hrC hrl huR hrk;have hx04:=hx3.trans hx4;have hlR:=G1 (P:=prog) (t:=112) hcR (b7 hx04) R0;have hSR:=huR.isS;have hnR:=huR.vlen;simp only[i5,n8,z6,simprocAttr,r2,r12,hinR,hlR,hSR,hnR];refine n9 [0,1,2,3,9,10,87,88] (σ:=(Nat×Value)×(List Int×List Bool)) (fun s f w'=>f 89 = .int .i64 s.1.1∧f 11=s.1.2∧s.1.1≤row.length∧B0 (i4 w) w' 3 s.1.2 s.2.1∧B0 (i4 w) w' 4 vs s.2.2∧(∀b,A4 s.1.2 b→¬A4 vs b)∧o7 w w'∧NJ M nx hit s.2.1 s.2.2 (fun d=>d=(C:Int))∧(∀j (hj:j<row.length),j<s.1.1→B4 s.2.2 row[j]=true)∧s.2.1.length+s.2.2.count false=td.length+seen.count false) (fun s=>row.length-s.1.1) ((0,v2),(td,seen)) ?_ ?_
 ·simp only[p6,simprocAttr];exact⟨by trivial,r11,dr8 _,hot2.ext hx4,hos3.ext hx4,hdj2,hx04,hJ2,fun j hj h=>by omega,by trivial⟩
 rintro⟨⟨j,v6⟩,td6,sn6⟩ f6 w6 hk ⟨h89,h116,hjl,ho6,hos6,hdj6,hx6,hJ6,hrow6,hcnt6⟩;simp only at h89 h116 hjl ho6 hos6 hdj6 hJ6 hrow6 hcnt6;simp only[dq9,p6,simprocAttr]at hk;obtain⟨j0,j1,j2,j3,j9,j10,j87,j88,_⟩:=hk;rw[r0]at j0;rw[r1]at j1;rw[r2]at j2;rw[r3]at j3;rw[r9]at j9;rw[r10]at j10;simp only[i5,n8,simprocAttr,h89,j88];refine m8 (fun hc2=>?_) (fun hc2=>?_);rotate_left
 ·have hge:j=row.length:=by simp at hc2;omega
  subst hge;have hJ7:=hJ6.close (by rw[dt5];exact hh0) (fun d hd=>by
   rw[hrC]at hd;obtain⟨k,hk,rfl⟩:=dw5.1 hd;exact hrow6 k hk hk)
  simp only[i5,simprocAttr];exact⟨(v6,td6,sn6),by simp only[];omega,h116,ho6,hos6,hdj6,hx6,hJ7,by simp only[];omega⟩
 have hlt:j<row.length:=by simpa using hc2
 have hinj:=huR.inS hlt;have hldj:=aJ6 huR (b7 hx6) hlt;have hdk:=hrk _ (dr5 hlt);have hdm:row[j]∈C1 nx (C:Int):=by rw[hrC];exact dr5 hlt
 have hrow7:∀sn:List Bool,(∀e,B4 sn6 e=true→B4 sn e=true)→B4 sn row[j]=true→∀k (hk:k<row.length),k<j+1→B4 sn row[k]=true:=fun sn hm hd k hk hkj=>by
  rcases dv3 k j with h|h
  ·exact hm _ (hrow6 k hk h)
  ·obtain rfl:k=j:=by omega
   exact hd
 generalize row[j]=d at hldj hdk hdm hrow7;obtain⟨hd0,hdM⟩:=C3.1 hdk;obtain⟨D,rfl⟩:∃D:Nat,d=(D:Int):=⟨d.toNat,by omega⟩;have hsl6:=hJ6.len;have hDs:D<sn6.length:=by omega
 have hinD:=hos6.inS hDs;have hldD:(Instr.loadAt 4 (.pointer (some (H2 vs D)))).run prog w6 = .ok (.bool sn6[D]) w6:=D4 (P:=prog) hos6 (dq7 hDs) ak1;have hbD:B4 sn6 (D:Int)=sn6[D]:=by
  rw[(M2 (by rw[hsl6];exact hdk)).2,dt5,List.getD,dq7 hDs];rfl
 have hcs:=ad2 (l:=sn6) hDs;generalize sn6[D]=sb at hldD hbD hcs;rcases dq8 sb with h1|h1<;>subst h1
 ·simp only[i5,n8,z6,simprocAttr,h89,j10,j87,hinj,hldj,hinD,hldD];exact⟨((j+1,v6),(td6,sn6)),by simp only[];omega,by simp only[];rw[A8 j (by omega)],h116,by simp only[];omega,ho6,hos6,hdj6,hx6,hJ6,hrow7 sn6 (fun _ h=>h) hbD,hcnt6⟩
 ·have hcs:=hcs rfl;obtain⟨w7,s1,hos7,hm7,_⟩:=D9 (P:=prog) (t:=4) hos6 rfl hDs (x:=.bool true) (y:=true) rfl rfl hib hib1;have ho7:=ho6.mod hm7 hdj6;have hx7:=hos6.ext2 hx6 hm7;obtain⟨p1,u8,w8,p2,p3,p4,p5⟩:=push (P:=prog) (t:=112) (e:=112) ae1 rfl ho7 (x:=.int .i64 (D:Int)) (y:=(D:Int)) rfl (by omega) (by omega) (b7 hx7);simp only[Value.cells]at p1 p2;have hos8:=hos7.mod p4 fun b hb h=>hdj6 b h hb;have hJ8:=hJ6.push hdk (Way.step hcw2 hdm);rw[dt5]at hJ8;have hok6:H1 sn6.length (D:Int)=true:=by rw[hsl6];exact hdk
  have hbs:∀e,B4 (sn6.set D true) e=if e=(D:Int)then true else B4 sn6 e:=fun e=>by
   have:=M6 (l:=sn6) (a:=(D:Int)) (b:=e) (v:=true) hok6;rw[dt5]at this;exact this
  simp only[i5,n8,z6,simprocAttr,h89,h116,j10,j87,hinj,hldj,hinD,hldD,s1,p1,p2];refine⟨((j+1,u8),(td6++[(D:Int)],sn6.set D true)),by simp only[];omega,by simp only[];rw[A8 j (by omega)],by trivial,by simp only[];omega,p3,hos8,fun b hb hb2=>?_,ho7.ext2 hx7 p4,hJ8,hrow7 _ (fun e he=>?_) ?_,?_⟩
  ·rcases p5 b hb with h|h
   ·exact hdj6 b h hb2
   ·have:=hos7.lt hb2;omega
  ·rw[hbs];split
   ·rfl
   ·exact he
  ·rw[hbs,if_pos rfl]
  ·simp only[dr1,du0];omega
theorem cI5(a:Addr)(b:Bk)(p:Pg)(i:Nat)(w:World)(ha:At (i4 w) a b)(hok:cf2 p b)(hways:b.ways=J2 p)(hdefs:L0 (b9 p).l.length 100 b.defs)(huses:L0 (b9 p).l.length 2000000 b.uses)
  (hr:E8 p) (hw:D1 p≤1000000) (hi:i<p.procs.length) :
  p7 prog 79 #[.pointer (some a),.int .i64 i] w fun u w'=>(B0 (i4 w) w' 9 u (aA3 p b.outs b.uses b.defs i)∧o7 w w'):=by
 refine p8 [.pointer (some a),.int .i64 i] func79 rfl ?_;obtain⟨x,pt⟩:=O8 hr.may hw i hi;have hwy:=V0 pt;generalize x+A5 p.procs[i].body=y at pt hwy;obtain⟨sh,vw,_,_,_,_,has,hvw,_,_,_,_,ldb,_⟩:=ha.book hok.s;obtain⟨_,_,_,_,_,_,hpg,_,_⟩:=has.sh;rw[J0]at hpg;obtain⟨vg,vp,hvg,hvp,ldp,_⟩:=hpg.pg;obtain⟨aw,hcw,haw⟩:=ay1 (hv:=hvw) (k:=i) (p:=⟨E2 (b9 p) i⟩) (by unfold Bk.wp;rw[hways,du5,W6 hi];rfl);simp only at haw;have hinw:=hvw.inS (k:=i) (by unfold Bk.wp;rw[hways];unfold J2;simpa using hi);have hgl:=(M7 hr.may).1;have lb:=ldb w (d7 _);have hlw:=G1 (P:=prog) (t:=126) hcw (d7 _) az2;simp only[i5,n8,z6,simprocAttr,lb,hinw,hlw];refine z7 (cF3 aw (E2 (b9 p) i) p i x y w haw hr hw hi hwy) ?_;rintro un w2 ⟨hun,hx2⟩;have lb2:=ldb w2 (b7 hx2);have lp2:=ldp w2 (b7 hx2);simp only[i5,n8,simprocAttr,lb2,lp2];refine z7 (ao7 vg p.globals w2 (A3.mono (b7 hx2) hvg) (by omega)) ?_;rintro uc w3 ⟨hoc,hx3⟩;obtain⟨p1,ul,w4,p2,p3,p4,p5⟩:=av5 (e:=22) hoc Y0 (by omega) (b7 hx3);have p1':(Instr.buildSlice 22 1 #[(0,.string ⟨#[36,105,110]⟩)]).run prog w3=_:=p1;have hx24:o7 w2 w4:=hoc.ext2 hx3 p4;have hul:=p3.rw_ (b7 hx24);have hF:aA3 p b.outs b.uses b.defs i=(p.globals++[Y0]).filter (ax6 (E2 (b9 p) i) (F5 b.outs i) b.uses b.defs):=rfl;have hgl2:(p.globals++[Y0]).length≤17:=by rw[dr1,du0];omega
 generalize p.globals++[Y0]=gl at hul hF hgl2;generalize hP:ax6 (E2 (b9 p) i) (F5 b.outs i) b.uses b.defs=P at hF;have hSl:=hul.isS;have hnl:=hul.vlen;simp only[i5,n8,simprocAttr,p1',p2,hSl,hnl];refine n9 [0,1,6,27,28] (σ:=Nat×Value) (fun s f w'=>f 29 = .int .i64 s.1∧f 5=s.2∧s.1≤gl.length∧B0 (i4 w4) w' 9 s.2 ((gl.take s.1).filter P)∧o7 w4 w') (fun s=>gl.length-s.1) (0,.slice none 0 0) ?_ ?_
 ·simp only[p6,simprocAttr];exact⟨by trivial,by trivial,dr8 _,by simpa using B0.nil _ _ _,t8.refl _⟩
 rintro⟨k,u⟩ f w5 hk ⟨h29,h5,hkl,ho,hx5⟩;simp only at h29 h5 hkl ho;simp only[dq9,p6,simprocAttr]at hk;obtain⟨e0,e1,e6,e27,e28,_⟩:=hk;have hx05:=hx2.trans (hx24.trans hx5);have hx25:=hx24.trans hx5;simp only[i5,n8,simprocAttr,h29,e28];refine m8 (fun hc=>?_) (fun hc=>?_);rotate_left
 ·have hge:k=gl.length:=by simp at hc;omega
  subst hge;rw[ds2]at ho;simp only[i5,simprocAttr,h5];refine o6 results79 ?_;simp only[p6,simprocAttr];exact⟨by rw[hF];exact ho.back (hx2.trans hx24),hx05⟩
 have hlt:k<gl.length:=by simpa using hc
 have hin:=hul.inS hlt;have hld:=ldS hul (b7 hx5) hlt;have htk:=ai6 P gl hlt;have hcl:((gl.take k).filter P).length≤17:=dr7 (dt9 _ _) (by rw[ds3];omega);generalize gl[k]=n at hld htk;simp only[i5,n8,z6,simprocAttr,h29,e0,e1,e6,e27,hin,hld];refine B2 (cm3 a b p i un n w5 (ha.mono (b7 hx05)) hok hways hdefs huses hr hw hi (A3.mono (b7 hx25) hun)) (fun w6 hx6=>?_);rw[hP];rcases dq8 (P n)with h1|h1
 ·obtain⟨q1,u7,w7,q2,q3,q4,q5⟩:=av5 (e:=22) (ho.ext hx6) n (by omega) (b7 (hx5.trans hx6));simp only[i5,n8,simprocAttr,h1,h29,h5,q1,q2];refine⟨(k+1,u7),by simp only[];omega,by simp only[];rw[A8 k (by omega)],by trivial,by simp only[];omega,?_,(ho.ext hx6).ext2 (hx5.trans hx6) q4⟩;simp only[];rw[htk,h1,if_pos rfl];exact q3
 ·simp only[i5,n8,simprocAttr,h1,h29,h5];refine⟨(k+1,u),by simp only[];omega,by simp only[];rw[A8 k (by omega)],by trivial,by simp only[];omega,?_,hx5.trans hx6⟩;simp only[];rw[htk,h1,if_neg (by simp),du2];exact ho.ext hx6
def nB(gb:Nat)(vx vy:Value)(Z:Nat→Prop)(b:Nat):Prop:=b=gb∨A4 vx b∨A4 vy b∨Z b
structure BM {α β:Type} [A3 α] [A3 β] (H:Hp) (w0 wz w:World) (Z:Nat→Prop) (gb:Nat) (TB TX TY:TypeId) (cells:Value→Array Value) (vx vy:Value) (xs:List α) (ys:List β):Prop where
 ext:o7 w0 w
 ge:w0.heap.size≤gb
 cb:w.heap[gb]?=some (.cells (cells vx) TB (0,0))
 ox:B0 (B7 w (nB gb vx vy Z)) w TX vx xs
 oy:B0 (B7 w (nB gb vx vy Z)) w TY vy ys
 dx:∀b,A4 vx b→w0.heap.size≤b∧b≠gb∧¬A4 vy b∧¬Z b
 dy:∀b,A4 vy b→w0.heap.size≤b∧b≠gb∧¬Z b
 dz:∀b,Z b→b≠gb∧b<wz.heap.size
 zk:∀b,Z b→w.heap[b]?=wz.heap[b]?
 sz:wz.heap.size≤w.heap.size
 base:B5 H (B7 w (nB gb vx vy Z))
section
variable {α β:Type} [A3 α] [A3 β] {H:Hp} {w0 wz w:World} {Z:Nat→Prop} {gb:Nat} {TB TX TY:TypeId} {cells:Value→Array Value} {vx vy:Value} {xs:List α} {ys:List β} {P:Program}
theorem BM.lt(s:BM H w0 wz w Z gb TB TX TY cells vx vy xs ys){b:Nat}(h:nB gb vx vy Z b):b<w.heap.size:=by
 rcases h with rfl|h|h|h
 ·exact(dr3.1 s.cb).1
 ·exact s.ox.lt h
 ·exact s.oy.lt h
 ·have:=(s.dz b h).2;have:=s.sz;omega
theorem BM.more(s:BM H w0 wz w Z gb TB TX TY cells vx vy xs ys){w':World}(hx:o7 w w'):BM H w0 wz w' Z gb TB TX TY cells vx vy xs ys:=by
 have hl:B5 (B7 w (nB gb vx vy Z)) (B7 w' (nB gb vx vy Z)):=G6 hx (fun _ h=>h.elim) fun b h=>.inl h;have hN:∀(v:Value),(∀b,A4 v b→nB gb vx vy Z b)→∀b,A4 v b→B7 w' (nB gb vx vy Z) b=none:=fun v hv b hb=>H3 (hv b hb);exact⟨s.ext.trans hx,s.ge,(hx.block gb (dr3.1 s.cb).1 id).trans s.cb,(s.ox.ext hx).up hl (hN vx fun b h=>.inr (.inl h)),(s.oy.ext hx).up hl (hN vy fun b h=>.inr (.inr (.inl h))),s.dx,s.dy,s.dz,
  fun b h=>(hx.block b (s.lt (.inr (.inr (.inr h)))) id).trans (s.zk b h),dr7 s.sz hx.size,p9 s.base hl⟩
theorem BM.fresh(s:BM H w0 wz w Z gb TB TX TY cells vx vy xs ys){γ:Type}[I8 γ]{w':World}{T:TypeId}{u:Value}{l:List γ}(ho:B0 (i4 w) w' T u l):R (B7 w' (nB gb vx vy Z)) u l:=
 (ho.down (h:=fun _=>none) (fun _ _ h=>by cases h)).ro (fun _ _ h=>by cases h) fun b hb=>D3 fun h=>by
  have h1:=s.lt h;have h2:=D0 (ho.free hb);omega
theorem BM.reset(s:BM H w0 wz w Z gb TB TX TY cells vx vy xs ys){ix:Nat}(hix:ix<(cells vx).size)(hset:∀v v',(cells v).setIfInBounds ix v'=cells v'){t:TypeId}{inf:TypeInfo}(hinf:P.info? t=some inf)(hs:inf.size=1):
  ∃w',(Instr.storeAt t (.pointer (some ⟨gb,ix,none⟩)) (.slice none 0 0)).run P w = .ok () w'∧BM H w0 wz w' Z gb TB TX TY cells (.slice none 0 0) vy ([]:List α) ys:=by
 obtain⟨w',h1,h2,h3⟩:=aj6 (P:=P) (t:=t) (x:=.slice none 0 0) s.cb hix rfl rfl hinf hs;rw[hset]at h2;have hl:B5 (B7 w (nB gb vx vy Z)) (B7 w' (nB gb (.slice none 0 0) vy Z)):=G6 h3 (fun b h=>.inl h) fun b h=>by
  rcases h with h|h|h
  ·exact .inl (.inl h)
  ·exact absurd h C6
  ·exact .inl (.inr (.inr h))
 refine⟨w',h1,t8.ext_of s.ext h3 fun b hb=>by subst hb;exact s.ge,s.ge,h2,B0.nil _ _ _,?_,fun b hb=>absurd hb C6,s.dy,s.dz,fun b h=>(h3.block b (s.lt (.inr (.inr (.inr h)))) (s.dz b h).1).trans (s.zk b h),dr7 s.sz h3.size,p9 s.base hl⟩;exact(s.oy.mod h3 fun b hb=>(s.dy b hb).2.1).up hl fun b hb=>H3 (.inr (.inr (.inl hb)))
theorem BM.push(s:BM H w0 wz w Z gb TB TX TY cells vx vy xs ys){t e:TypeId}{sz by_:Nat}(hsl:E7 P t TX sz by_=true)(hsz:A3.sz α=sz){x:Value}{y:α}(hy:A3.enc (B7 w (nB gb vx vy Z)) x.cells.toList y)
  (hl:xs.length+1≤1000000000000) (hb:(xs.length+1)*by_≤140737488355328) {ix:Nat} (hix:ix<(cells vx).size) (hset:∀v v',(cells v).setIfInBounds ix v'=cells v') {inf:TypeInfo} (hinf:P.info? t=some inf) (hs:inf.size=1) :
  (Instr.buildSlice t 1 #[(0,x)]).run P w = .ok (.slice (some ⟨w.heap.size,0,none⟩) 1 1) (w.alloc (.cells x.cells TX)) ∧
  ∃v' w' w'',(Builtin.append_ #[t,t] e #[vx,.slice (some ⟨w.heap.size,0,none⟩) 1 1]).run P (w.alloc (.cells x.cells TX)) = .ok v' w'∧(Instr.storeAt t (.pointer (some ⟨gb,ix,none⟩)) v').run P w' = .ok () w'' ∧
   BM H w0 wz w'' Z gb TB TX TY cells v' vy (xs++[y]) ys∧t8 (A4 vx) w w':=by
 obtain⟨p1,v',w',p2,p3,p4,p5⟩:=Go.Proofs.YtcbnbgpphippoaaGreat.push (P:=P) (e:=e) hsl hsz s.ox hy hl hb (B3 _ _);have hgb:w'.heap[gb]?=some (.cells (cells vx) TB (0,0)):=(p4.block gb (dr3.1 s.cb).1 fun h=>(s.dx gb h).2.1 rfl).trans s.cb;obtain⟨w'',h1,h2,h3⟩:=aj6 (P:=P) (t:=t) (x:=v') hgb hix (D8 p3.isS) (W9 p3.isS) hinf hs;rw[hset]at h2;have hx1:o7 w0 w':=t8.ext_of s.ext p4 fun b hb=>(s.dx b hb).1;have hl1:B5 (B7 w (nB gb vx vy Z)) (B7 w' (nB gb v' vy Z)):=G6 p4 (fun b h=>.inr (.inl h)) fun b h=>by
  rcases h with h|h|h
  ·exact .inl (.inl h)
  ·rcases p5 b h with h|h
   ·exact .inl (.inr (.inl h))
   ·exact .inr h
  ·exact .inl (.inr (.inr h))
 have hl2:B5 (B7 w' (nB gb v' vy Z)) (B7 w'' (nB gb v' vy Z)):=G6 h3 (fun b h=>.inl h) fun b h=>.inl h;have hlt:=fun b (h:nB gb vx vy Z b)=>s.lt h;have hv':∀b,A4 v' b→w0.heap.size≤b∧b≠gb∧¬A4 vy b∧¬Z b:=fun b hb=>by
  rcases p5 b hb with h|h
  ·exact s.dx b h
  ·refine⟨dr7 s.ext.size h,fun e=>?_,fun h2=>?_,fun h2=>?_⟩
   ·have:=hlt b (.inl e);omega
   ·have:=hlt b (.inr (.inr (.inl h2)));omega
   ·have:=hlt b (.inr (.inr (.inr h2)));omega
 refine⟨p1,v',w',w'',p2,h1,⟨t8.ext_of hx1 h3 fun b hb=>by subst hb;exact s.ge,s.ge,h2,?_,?_,hv',s.dy,s.dz,fun b h=>?_,dr7 s.sz (dr7 p4.size h3.size),p9 s.base (p9 hl1 hl2)⟩,p4⟩
 ·exact(p3.mod h3 fun b hb=>(hv' b hb).2.1).up (p9 hl1 hl2) fun b hb=>H3 (.inr (.inl hb))
 ·exact((s.oy.mod p4 fun b hb h=>(s.dx b h).2.2.1 hb).mod h3 fun b hb=>(s.dy b hb).2.1).up (p9 hl1 hl2) fun b hb=>H3 (.inr (.inr (.inl hb)))
 ·have hb:=hlt b (.inr (.inr (.inr h)));exact(h3.block b (dw9 hb p4.size) (s.dz b h).1).trans ((p4.block b hb fun h2=>(s.dx b h2).2.2.2 h).trans (s.zk b h))
theorem BM.set(s:BM H w0 wz w Z gb TB TX TY cells vx vy xs ys)(hz:A3.sz β=1){k:Nat}(hk:k<ys.length){u:Value}{y:β}(hy:A3.enc (B7 w (nB gb vx vy Z)) [u] y)(hu:u.cells=#[u]){t:TypeId}{inf:TypeInfo}(hinf:P.info? t=some inf)(hs:inf.size=1):
  ∃w',(Instr.storeAt t (.pointer (some (H2 vy k))) u).run P w = .ok () w'∧BM H w0 wz w' Z gb TB TX TY cells vx vy xs (ys.set k y):=by
 obtain⟨w',q1,q2,q3,_⟩:=D9 (P:=P) (t:=t) s.oy hz hk (x:=u) hy hu hinf hs;have hl:B5 (B7 w (nB gb vx vy Z)) (B7 w' (nB gb vx vy Z)):=G6 q3 (fun b h=>.inr (.inr (.inl h))) fun b h=>.inl h;refine⟨w',q1,t8.ext_of s.ext q3 fun b hb=>(s.dy b hb).1,s.ge,(q3.block gb (dr3.1 s.cb).1 fun h=>(s.dy gb h).2.1 rfl).trans s.cb,?_,?_,s.dx,s.dy,s.dz,fun b h=>(q3.block b (s.lt (.inr (.inr (.inr h)))) fun h2=>(s.dy b h2).2.2 h).trans (s.zk b h),dr7 s.sz q3.size,p9 s.base hl⟩
 ·exact(s.ox.mod q3 fun b hb h=>(s.dx b hb).2.2.1 h).up hl fun b hb=>H3 (.inr (.inl hb))
 ·exact q2.up hl fun b hb=>H3 (.inr (.inr (.inl hb)))
theorem BM.rx(s:BM H w0 wz w Z gb TB TX TY cells vx vy xs ys):R (i4 w) vx xs:=s.ox.rw_ (B3 _ _)
theorem BM.ry(s:BM H w0 wz w Z gb TB TX TY cells vx vy xs ys):R (i4 w) vy ys:=s.oy.rw_ (B3 _ _)
theorem BM.hb(s:BM H w0 wz w Z gb TB TX TY cells vx vy xs ys):B5 H (i4 w):=p9 s.base (B3 _ _)
end
theorem bt2{α:Type}[A3 α]{h k:Hp}:∀{n:Nat} {cs:List Value},N1 h cs (List.replicate n ([]:List α))→N1 k cs (List.replicate n ([]:List α))
 | 0,_,e=>e
 | n+1,cs,⟨c1,c2,e,h1,h2⟩=>⟨c1,c2,e,by
   obtain⟨a,m,c,e1,e2,e3,es,e4,e5⟩:=h1;refine⟨a,m,c,e1,e2,e3,es,e4,fun j v hj=>?_⟩;have:es=[]:=e4;rw[this]at hj;simp at hj,bt2 h2⟩
theorem B0.renil{α:Type}[A3 α]{h k:Hp}{w w':World}{T:TypeId}{v:Value}{n:Nat}(ho:B0 h w T v (List.replicate n ([]:List α)))(hk:∀b,A4 v b→k b=none)(hw:∀b,A4 v b→w'.heap[b]?=w.heap[b]?):B0 k w' T v (List.replicate n ([]:List α)):=by
 rcases ho with⟨rfl,h2⟩|⟨b,c,cur,rfl,h1,h2,h3,h4,h5,h6⟩
 ·exact .inl ⟨rfl,h2⟩
 ·exact .inr ⟨b,c,cur,rfl,hk b rfl,(hw b rfl).trans h2,h3,h4,h5,bt2 h6⟩
theorem aF2{n B:Nat}{X:Rws}(h:L0 n B X)(i:Int):(F5 X i).length≤B:=by
 unfold F5;rw[List.getD];cases hx:X[i.toNat]? with
 | none=>simp
 | some r=>exact h.few r (ds9 hx)
theorem aG6{p:Pg}(hm:J6 p=true){n:Nat}{X:Rws}(h:L0 n 25 X){s:St}(hf:s.kind=4→ad3 p s=true):(ak6 p X s).length≤100:=by
 unfold ak6;split
 ·simp
 split
 ·simp
 split
 ·simp
 split
 ·rename_i h4;obtain⟨k,hk⟩:=ad1 (hf h4);have h1:=O4 hm hk.lt;have h2:=hk.len;unfold aw6;rw[hk.fn];have h3:=aF2 h (S5 p.procs s.proc);have h5:=dt9 (fun x:Ar×Pa=>x.1.ref&&(F5 X (S5 p.procs s.proc)).contains x.2.name) (s.args.zip (p.procs[k]'hk.lt).params);rw[List.length_zip]at h5;have h6:=dt9 (O7 p) (F5 X (S5 p.procs s.proc));have h7:(if s.name=e0 then([]:List A7)else[s.name]).length≤1:=by split<;>simp
  simp only[dr1,dr9];omega
 ·simp
theorem aX9{p:Pg}{n:Nat}{X:Rws}(h:L0 n 25 X){s:St}(hw:O6 s≤1000000):(al2 p X s).length≤2000000:=by
 rw[P2]at hw;have h1:=aa8 s.x;have h2:=M1 s.args;have h3:=aF2 h (S5 p.procs s.proc);unfold al2;simp only[dr1];have h4:(if s.kind=2 then[Y0]else[]).length≤1:=by split<;>simp
 have h5:(if s.kind=4 then s.args.flatMap J3++F5 X (S5 p.procs s.proc)else[]).length≤Z6 s.args+25:=by
  split
  ·rw[dr1];omega
  ·simp
 omega
theorem aR6{l:List It}{f:It→List A7}{B:Nat}(hB:∀it∈l,(f it).length≤B):L0 l.length B (l.map fun it=>C9 (f it)):=by
 refine⟨by simp,fun r hr=>?_,fun r hr=>?_⟩
 ·obtain⟨it,_,rfl⟩:=dt7.1 hr;exact Q5 _
 ·obtain⟨it,hit,rfl⟩:=dt7.1 hr;exact dr7 (as5 _) (hB it hit)
def aM1(new old:Rws)(i:Nat):Rws:=new.take i++old.drop i
section
variable {new old:Rws} {n i:Nat}
theorem bA6(h1:new.length=n)(h2:old.length=n):(aM1 new old i).length=n:=by
 unfold aM1;rw[dr1,ds3,dy7];omega
theorem bI8:aM1 new old 0=old:=by simp[aM1]
theorem cc1(h1:new.length=n)(h2:old.length=n):aM1 new old n=new:=by
 unfold aM1;rw[dv8 (by omega),List.drop_eq_nil_of_le (by omega),du2]
theorem cc2(h1:new.length=n)(hi:i<n):(aM1 new old i)[i]?=old[i]?:=by
 unfold aM1;rw[dv7 (by rw[ds3];omega),ds3,dA8]
 congr 1;omega
theorem cc3(h1:new.length=n)(h2:old.length=n)(hi:i<n){x:List A7}(hx:new[i]?=some x):(aM1 new old i).set i x=aM1 new old (i+1):=by
 unfold aM1;have hl:(new.take i).length=i:=by rw[ds3];omega
 rw[List.set_append_right _ _ (by omega),hl,Nat.sub_self,du8 (by omega),List.set_cons_zero,dD4,hx];simp
theorem cx4{B:Nat}(h1:L0 n B new)(h2:L0 n B old):L0 n B (aM1 new old i):=by
 have key:∀r∈aM1 new old i,r∈new∨r∈old:=fun r hr=>by
  rcases ds4.1 hr with h|h
  ·exact .inl (dz5 h)
  ·exact .inr (dB8 h)
 exact⟨bA6 h1.len h2.len,fun r hr=>(key r hr).elim (h1.rise r) (h2.rise r),fun r hr=>(key r hr).elim (h1.few r) (h2.few r)⟩
end
theorem cd3:E7 prog 91 22 1 24=true:=by kernel_rfl
theorem dd5:E7 prog 90 126 1 8=true:=by kernel_rfl
theorem cq6(s vi vo:Value)(hs:s.cells=#[s])(hi:vi.cells=#[vi])(ho:vo.cells=#[vo]):B8 prog 93 [(0,s),(4,vi),(5,vo)]=some (.agg #[s,.slice none 0 0,.slice none 0 0,.slice none 0 0,vi,vo]):=by
 simp[B8,de5,J5,Instr.fill,hs,hi,ho]
def SBs(gs:Nat)(vL vLo vHi:Value)(b:Nat):Prop:=b=gs∨A4 vL b∨A4 vLo b∨A4 vHi b
theorem ShS.lts{h:Hp}{w:World}{gb:Nat}{vg vp vL vLo vHi:Value}{L:List It}{lo hi:List Int}(s:ShS h w gb vg vp vL vLo vHi L lo hi){b:Nat}(hb:SBs gb vL vLo vHi b):b<w.heap.size:=by
 rcases hb with rfl|hb|hb|hb
 ·exact s.lt
 ·exact s.oL.lt hb
 ·exact s.oLo.lt hb
 ·exact s.oHi.lt hb
theorem aT8{k:Hp}{gb j:Nat}{cs:Array Value}{T:TypeId}{fr:Nat×Nat}{u:Value}(hk:k gb=some (.cells cs T fr))(hj:cs[j]?=some u):I5 k ((⟨gb,0,none⟩:Addr).add j)=some u:=by
 rw[add_lit,du4];unfold I5;rw[hk];simpa using hj
theorem ShS.atK{h k:Hp}{w:World}{gb:Nat}{vg vp vL vLo vHi:Value}{L:List It}{lo hi:List Int}{p:Pg}(s:ShS h w gb vg vp vL vLo vHi L lo hi)(hk:B5 h k)(hkb:∀b,SBs gb vL vLo vHi b→k b=w.heap[b]?)(hg:R h vg p.globals)(hp:R h vp p.procs):At k ⟨gb,0,none⟩ (⟨p,L,lo,hi⟩:Sh):=by
 refine⟨[vg,vp,vL,vLo,vHi],⟨[vg,vp],vL,vLo,vHi,rfl,⟨vg,vp,rfl,A3.mono hk hg,A3.mono hk hp⟩,s.oL.ro hk fun b h=>hkb b (.inr (.inl h)),s.oLo.ro hk fun b h=>hkb b (.inr (.inr (.inl h))),s.oHi.ro hk fun b h=>hkb b (.inr (.inr (.inr h)))⟩,fun j u hj=>?_⟩;exact aT8 ((hkb gb (.inl rfl)).trans s.cell) (by simpa using hj)
theorem cV0{k:Hp}{gb:Nat}{sh:Addr}{wy:Wy}{vr vl:Value}(hh:k gb=some (.cells #[.pointer (some sh),.int .i64 wy.proc,.int .i64 wy.n,vr,vl] 151 (0,0)))(hs:At k sh wy.s)(hr:R k vr wy.real)(hl:R k vl wy.live):At k ⟨gb,0,none⟩ wy:=
 ⟨[.pointer (some sh),.int .i64 wy.proc,.int .i64 wy.n,vr,vl],⟨_,_,_,rfl,hs.ptr,hr,hl⟩,fun j u hj=>aT8 hh (by simpa using hj)⟩
theorem BM.freshN{α β:Type}[A3 α][A3 β]{H:Hp}{w0 wz w:World}{Z:Nat→Prop}{gb:Nat}{TB TX TY:TypeId}{cells:Value→Array Value}{vx vy:Value}{xs:List α}{ys:List β}(s:BM H w0 wz w Z gb TB TX TY cells vx vy xs ys){γ:Type}[A3 γ][A6 γ]{w':World}{T:TypeId}{u:Value}{l:List γ}(ho:B0 (i4 w) w' T u l):R (B7 w' (nB gb vx vy Z)) u l:=
 ho.flatRN fun b hb=>D3 fun h=>by
  have h1:=s.lt h;have h2:=D0 (ho.free hb);omega
theorem cn5(p:Pg):b9 p=⟨p,(b9 p).l,(b9 p).lo,(b9 p).hi⟩:=by
 have:=J0 p;cases hq:b9 p;rw[hq]at this;simp only at this;rw[this]
structure NI (wd w:World) (p:Pg) (us vi vo:Value):Prop where
 sh:∃gs vg vp vL vLo vHi,us = .pointer (some ⟨gs,0,none⟩)∧ShS (i4 wd) w gs vg vp vL vLo vHi (b9 p).l (b9 p).lo (b9 p).hi∧R (i4 wd) vg p.globals∧R (i4 wd) vp p.procs∧∀b,SBs gs vL vLo vHi b→wd.heap.size≤b∧¬A4 vi b∧¬A4 vo b
 oi:B0 (i4 wd) w 22 vi (List.replicate p.procs.length ([]:List A7))
 oo:B0 (i4 wd) w 22 vo (List.replicate p.procs.length ([]:List A7))
 gi:∀b,A4 vi b→wd.heap.size≤b∧¬A4 vo b
 go:∀b,A4 vo b→wd.heap.size≤b
 ext:o7 wd w
theorem NI.mk'{wd w:World}{p:Pg}{gs:Nat}{vg vp vL vLo vHi vi vo:Value}(s1 e1 s2 e2 s3 e3:Nat)(hsh:ShS (i4 wd) w gs vg vp vL vLo vHi (b9 p).l (b9 p).lo (b9 p).hi)(hg:R (i4 wd) vg p.globals)(hp:R (i4 wd) vp p.procs)
  (h1:∀b,SBs gs vL vLo vHi b→s1≤b∧b<e1) (h2:∀b,A4 vi b→s2≤b∧b<e2) (h3:∀b,A4 vo b→s3≤b∧b<e3) (d12:e1≤s2∨e2≤s1) (d13:e1≤s3∨e3≤s1) (d23:e2≤s3∨e3≤s2) (hs:wd.heap.size≤s1∧wd.heap.size≤s2∧wd.heap.size≤s3)
  (hoi:B0 (i4 wd) w 22 vi (List.replicate p.procs.length ([]:List A7))) (hoo:B0 (i4 wd) w 22 vo (List.replicate p.procs.length ([]:List A7))) (hx:o7 wd w):NI wd w p (.pointer (some ⟨gs,0,none⟩)) vi vo:=by
 refine⟨⟨gs,vg,vp,vL,vLo,vHi,rfl,hsh,hg,hp,fun b hb=>⟨?_,fun h=>?_,fun h=>?_⟩⟩,hoi,hoo,fun b hb=>⟨?_,fun h=>?_⟩,fun b hb=>?_,hx⟩
 ·have:=h1 b hb;omega
 ·have:=h1 b hb;have:=h2 b h;omega
 ·have:=h1 b hb;have:=h3 b h;omega
 ·have:=h2 b hb;omega
 ·have:=h2 b hb;have:=h3 b h;omega
 ·have:=h3 b hb;omega
theorem bT3{p:Pg}(hm:J6 p=true){D:Rws}(hD:L0 (b9 p).l.length 100 D)(h200:(b9 p).l.length≤200)(i:Nat)(hw:D1 p≤1000000)(hi:i<p.procs.length):(aa9 p D i).length≤20000:=by
 have e:aa9 p D i=((b9 p).of i).flatMap fun it=>if(E2 (b9 p) i).lives it.s.id then(F5 D (it.s.id-1)).filter (W3 p i)else[]:=by
  unfold aa9;rw[aU6]
 rw[e];have h1:=S1 (fun it:It=>if(E2 (b9 p) i).lives it.s.id then(F5 D (it.s.id-1)).filter (W3 p i)else[]) 100 ((b9 p).of i) fun it _=>by
  split
  ·exact dr7 (dt9 _ _) (aF2 hD _)
  ·simp
 have h2:((b9 p).of i).length≤200:=by
  unfold Sh.of;rw[dy7,ds3];omega
 omega
theorem ck5{p:Pg}(hm:J6 p=true)(O U D:Rws)(i:Nat):(aA3 p O U D i).length≤17:=by
 unfold aA3;refine dr7 (dt9 _ _) ?_;have:=(M7 hm).1;rw[dr1,du0];omega
theorem bS9{p:Pg}(hr:E8 p)(hw:D1 p≤1000000)(i:Nat)(hi:i<p.procs.length):OkR (E2 (b9 p) i).net∧(E2 (b9 p) i).net.length=(E2 (b9 p) i).n.toNat∧0<(E2 (b9 p) i).n:=by
 obtain⟨x,pt⟩:=O8 hr.may hw i hi;have hwy:=V0 pt;obtain⟨h1,h2,_⟩:=cx7 hr hw hi hwy;have hn:=hwy.n;have:=pt.ok.le;exact⟨h1,h2,by omega⟩
theorem cN0{w:World}{gb:Nat}{gs:Addr}{vw vd vu vi vo:Value}{b:Bk}(hc:w.heap[gb]?=some (.cells #[.pointer (some gs),vw,vd,vu,vi,vo] 93 (0,0)))(h1:At (i4 w) gs b.s)(h2:R (i4 w) vw b.wp)(h3:R (i4 w) vd b.defs)(h4:R (i4 w) vu b.uses)(h5:R (i4 w) vi b.ins)(h6:R (i4 w) vo b.outs):At (i4 w) ⟨gb,0,none⟩ b:=
 ⟨[.pointer (some gs),vw,vd,vu,vi,vo],⟨_,_,_,_,_,_,rfl,h1.ptr,h2,h3,h4,h5,h6⟩,fun j u hj=>aT8 hc (by simpa using hj)⟩
theorem cF4(v:Value)(p:Pg)(w:World)(hv:SV (i4 w) v p)(hw:D1 p≤1000000):
  p7 prog 45 #[v] w fun u w'=>((ab0 p=false→u = .pointer none)∧(ab0 p=true→∃ad,u = .pointer (some ad)∧At (i4 w') ad (y5 p))∧o7 w w'):=by
 refine p8 [v] func45 rfl ?_;obtain⟨c,w1,hbx,hx1,hatp⟩:=P7 hv (d7 _);obtain⟨sp,hsp,ldsp,sdsp⟩:=hatp.pg_v;obtain⟨vg0,vp0,hvg0,hvp0,ldp,sdp⟩:=hatp.pg;have l1:=ldsp w1 (d7 _);simp only[i5,n8,simprocAttr,hbx,l1];refine B2 (aN5 sp p w1 hsp hw) (fun w2 hx2=>?_);rcases dq8 (ab0 p)with hR|hR;rotate_left
 ·simp only[i5,n8,simprocAttr,hR];refine o6 results45 ?_;simp only[p6,simprocAttr];exact⟨fun _=>by trivial,fun h=>(by cases h),hx1.trans hx2⟩
 have hr:=U0 hR;obtain⟨hg16,hp16⟩:=M7 hr.may;have hx12d:=hx2.trans (o7.drew w2);have hSp0:=hvp0.isS;have hnp0:=hvp0.vlen;have t1:=sdsp (fun w'=>o7 w2.drew w') w2.drew (t8.refl _) fun w' h=>b7 (hx12d.trans h);have t2:=sdp (fun w'=>o7 w2.drew w') w2.drew (t8.refl _) fun w' h=>b7 (hx12d.trans h);have hspd:=hsp.mono (b7 hx12d);have hz:A3.enc (i4 w2.drew) (Value.slice none 0 0).cells.toList ([]:List A7):=aB4 _;have mkS:=fun(wa:World) (ha:o7 w2.drew wa)=>mk (P:=prog) (w:=wa) (h:=i4 w2.drew) (α:=List A7) cd3 bN4 (y:=[]) hz (n:=p.procs.length) (by omega) (by omega) (b7 ha);simp only[i5,n8,simprocAttr,hR];refine ct6 [1] (fun w'=>o7 w2.drew w') 10 (.op 0 (.op 2 (.op 3 (.op 4 (.op 6 (.op 7 (.op 8 (.fork [1,5,9] (fun i=>if i=1 then(.fork [5,9] (fun i=>if i=5 then(A9 [9])else(A9 [5])))else if i=5 then(.fork [1,9] (fun i=>if i=1 then(A9 [9])else(A9 [1])))else(.fork [1,5] (fun i=>if i=1 then(A9 [5])else(A9 [1]))))))))))))
  (fun f' w'=>NI w2.drew w' p (f' 19) (f' 23) (f' 27)) (by decide +kernel) (by decide +kernel) (t8.refl _) ?_ ?_
 ·simp only[D2,A9,i5,n8,simprocAttr,t1,t2,hSp0,hnp0];refine av7 (by decide +kernel) (fun i hi=>?_);simp only[dt1,dw3,dC5]at hi;rcases hi with rfl|rfl|rfl
  ·simp only[D2,i5,simprocAttr];refine z7 (ab4 (i4 w2.drew) sp p w2.drew hspd (d7 _) hw) ?_;rintro _ wA ⟨gs,vg,vp,vL,vLo,vHi,rfl,hsh,hg,hpp,hge,hgl,hxA⟩;refine⟨hxA,?_⟩;have hb1:∀b,SBs gs vL vLo vHi b→w2.drew.heap.size≤b∧b<wA.heap.size:=fun b hb=>⟨by rcases hb with rfl|hb;exact hge;exact hgl b hb,hsh.lts hb⟩;obtain⟨va,wB,m1,o1,xB,f1,_⟩:=mkS wA hxA;obtain⟨vb,wC,m2,o2,xC,f2,_⟩:=mkS wB (hxA.trans xB);have hs3:=(hsh.ext xB).ext xC;refine av7 (by decide +kernel) (fun i hi=>?_);simp only[dt1,dw3,dC5]at hi;rcases hi with rfl|rfl
   ·simp only[D2,i5,simprocAttr,m1,m2,F1];exact⟨hxA.trans xB,(hxA.trans xB).trans xC,NI.mk' _ _ wA.heap.size wB.heap.size wB.heap.size wC.heap.size hs3 hg hpp hb1 (fun b hb=>⟨f1 b hb,o1.lt hb⟩) (fun b hb=>⟨f2 b hb,o2.lt hb⟩) (.inl (ds5 _)) (.inl xB.size) (.inl (ds5 _)) ⟨ds5 _,hxA.size,dr7 hxA.size xB.size⟩ (o1.ext xC) o2 ((hxA.trans xB).trans xC)⟩
   ·simp only[D2,i5,simprocAttr,m1,m2,F1];exact⟨hxA.trans xB,(hxA.trans xB).trans xC,NI.mk' _ _ wB.heap.size wC.heap.size wA.heap.size wB.heap.size hs3 hg hpp hb1 (fun b hb=>⟨f2 b hb,o2.lt hb⟩) (fun b hb=>⟨f1 b hb,o1.lt hb⟩) (.inl xB.size) (.inl (ds5 _)) (.inr (ds5 _)) ⟨ds5 _,dr7 hxA.size xB.size,hxA.size⟩ o2 (o1.ext xC) ((hxA.trans xB).trans xC)⟩
  ·obtain⟨va,wB,m1,o1,xB,f1,_⟩:=mkS w2.drew (t8.refl _);simp only[D2,i5,simprocAttr,m1,F1];refine⟨xB,?_⟩;refine av7 (by decide +kernel) (fun i hi=>?_);simp only[dt1,dw3,dC5]at hi;rcases hi with rfl|rfl
   ·simp only[D2,i5,simprocAttr];refine z7 (ab4 (i4 w2.drew) sp p wB hspd (b7 xB) hw) ?_;rintro _ wA ⟨gs,vg,vp,vL,vLo,vHi,rfl,hsh,hg,hpp,hge,hgl,hxA⟩;have hb1:∀b,SBs gs vL vLo vHi b→wB.heap.size≤b∧b<wA.heap.size:=fun b hb=>⟨by rcases hb with rfl|hb;exact hge;exact hgl b hb,hsh.lts hb⟩;obtain⟨vb,wC,m2,o2,xC,f2,_⟩:=mkS wA (xB.trans hxA);refine⟨xB.trans hxA,?_⟩;simp only[D2,i5,simprocAttr,m2,F1];exact⟨(xB.trans hxA).trans xC,NI.mk' _ _ w2.drew.heap.size wB.heap.size wA.heap.size wC.heap.size (hsh.ext xC) hg hpp hb1 (fun b hb=>⟨f1 b hb,o1.lt hb⟩) (fun b hb=>⟨f2 b hb,o2.lt hb⟩) (.inr (ds5 _)) (.inl (ds5 _)) (.inl hxA.size) ⟨xB.size,ds5 _,dr7 xB.size hxA.size⟩ ((o1.ext hxA).ext xC) o2 ((xB.trans hxA).trans xC)⟩
   ·obtain⟨vb,wC,m2,o2,xC,f2,_⟩:=mkS wB xB;simp only[D2,i5,simprocAttr,m2,F1];refine⟨xB.trans xC,?_⟩;refine z7 (ab4 (i4 w2.drew) sp p wC hspd (b7 (xB.trans xC)) hw) ?_;rintro _ wA ⟨gs,vg,vp,vL,vLo,vHi,rfl,hsh,hg,hpp,hge,hgl,hxA⟩;have hb1:∀b,SBs gs vL vLo vHi b→wC.heap.size≤b∧b<wA.heap.size:=fun b hb=>⟨by rcases hb with rfl|hb;exact hge;exact hgl b hb,hsh.lts hb⟩;refine⟨(xB.trans xC).trans hxA,?_⟩;simp only[D2,i5,simprocAttr];exact NI.mk' _ _ w2.drew.heap.size wB.heap.size wB.heap.size wC.heap.size hsh hg hpp hb1 (fun b hb=>⟨f1 b hb,o1.lt hb⟩) (fun b hb=>⟨f2 b hb,o2.lt hb⟩) (.inr xC.size) (.inr (ds5 _)) (.inl (ds5 _)) ⟨(xB.trans xC).size,ds5 _,xB.size⟩ ((o1.ext xC).ext hxA) (o2.ext hxA) ((xB.trans xC).trans hxA)
  ·obtain⟨va,wB,m1,o1,xB,f1,_⟩:=mkS w2.drew (t8.refl _);simp only[D2,i5,simprocAttr,m1,F1];refine⟨xB,?_⟩;refine av7 (by decide +kernel) (fun i hi=>?_);simp only[dt1,dw3,dC5]at hi;rcases hi with rfl|rfl
   ·simp only[D2,i5,simprocAttr];refine z7 (ab4 (i4 w2.drew) sp p wB hspd (b7 xB) hw) ?_;rintro _ wA ⟨gs,vg,vp,vL,vLo,vHi,rfl,hsh,hg,hpp,hge,hgl,hxA⟩;have hb1:∀b,SBs gs vL vLo vHi b→wB.heap.size≤b∧b<wA.heap.size:=fun b hb=>⟨by rcases hb with rfl|hb;exact hge;exact hgl b hb,hsh.lts hb⟩;obtain⟨vb,wC,m2,o2,xC,f2,_⟩:=mkS wA (xB.trans hxA);refine⟨xB.trans hxA,?_⟩;simp only[D2,i5,simprocAttr,m2,F1];exact⟨(xB.trans hxA).trans xC,NI.mk' _ _ wA.heap.size wC.heap.size w2.drew.heap.size wB.heap.size (hsh.ext xC) hg hpp hb1 (fun b hb=>⟨f2 b hb,o2.lt hb⟩) (fun b hb=>⟨f1 b hb,o1.lt hb⟩) (.inl (ds5 _)) (.inr (ds5 _)) (.inr hxA.size) ⟨xB.size,dr7 xB.size hxA.size,ds5 _⟩ o2 ((o1.ext hxA).ext xC) ((xB.trans hxA).trans xC)⟩
   ·obtain⟨vb,wC,m2,o2,xC,f2,_⟩:=mkS wB xB;simp only[D2,i5,simprocAttr,m2,F1];refine⟨xB.trans xC,?_⟩;refine z7 (ab4 (i4 w2.drew) sp p wC hspd (b7 (xB.trans xC)) hw) ?_;rintro _ wA ⟨gs,vg,vp,vL,vLo,vHi,rfl,hsh,hg,hpp,hge,hgl,hxA⟩;have hb1:∀b,SBs gs vL vLo vHi b→wC.heap.size≤b∧b<wA.heap.size:=fun b hb=>⟨by rcases hb with rfl|hb;exact hge;exact hgl b hb,hsh.lts hb⟩;refine⟨(xB.trans xC).trans hxA,?_⟩;simp only[D2,i5,simprocAttr];exact NI.mk' _ _ wB.heap.size wC.heap.size w2.drew.heap.size wB.heap.size hsh hg hpp hb1 (fun b hb=>⟨f2 b hb,o2.lt hb⟩) (fun b hb=>⟨f1 b hb,o1.lt hb⟩) (.inr (ds5 _)) (.inr xC.size) (.inr (ds5 _)) ⟨(xB.trans xC).size,xB.size,ds5 _⟩ (o2.ext hxA) ((o1.ext xC).ext hxA) ((xB.trans xC).trans hxA)
 rintro f w3 hk hNI;simp only[dq9,p6,simprocAttr]at hk;obtain⟨e1,_⟩:=hk;obtain⟨⟨gs,vg,vp,vL,vLo,vHi,h19,hsh,hg,hpp,hsb⟩,hoi,hoo,hgi,hgo,hx3⟩:=hNI;generalize h23:f 23=vi at hoi hoo hgi hgo hsb;generalize h27:f 27=vo at hoi hoo hgi hgo hsb;obtain⟨bb,w4,hbox,hx4,hc4,hge4⟩:∃bb w4,(Instr.box 93 (.agg #[.pointer (some ⟨gs,0,none⟩),.slice none 0 0,.slice none 0 0,.slice none 0 0,vi,vo])).run prog w3 = .ok (.pointer (some ⟨bb,0,none⟩)) w4∧o7 w3 w4∧w4.heap[bb]?=some (.cells #[.pointer (some ⟨gs,0,none⟩),.slice none 0 0,.slice none 0 0,.slice none 0 0,vi,vo] 93 (0,0))∧w3.heap.size≤bb:=
  ⟨_,_,rfl,o7.alloc _ _,dv4 w3 _,ds5 _⟩
 have hdg:w2.drew.heap.size≤bb:=dr7 hx3.size hge4;have hZ1:∀b,(A4 vi b∨A4 vo b)→w2.drew.heap.size≤b∧b<w3.heap.size:=fun b h=>by
  rcases h with h|h
  ·exact⟨(hgi b h).1,hoi.lt h⟩
  ·exact⟨hgo b h,hoo.lt h⟩
 have hN1:∀b,nB bb (.slice none 0 0) (.slice none 0 0) (fun b=>A4 vi b∨A4 vo b) b→b=bb∨A4 vi b∨A4 vo b:=fun b h=>by
  rcases h with h|h|h|h
  ·exact .inl h
  ·exact absurd h C6
  ·exact absurd h C6
  ·exact .inr h
 have hatS:At (B7 w4 (nB bb (.slice none 0 0) (.slice none 0 0) (fun b=>A4 vi b∨A4 vo b))) ⟨gs,0,none⟩ (b9 p):=by
  rw[cn5];refine(hsh.ext hx4).atK (aH1 (hx3.trans hx4) fun b hb=>?_) (fun b hb=>D3 fun h=>?_) hg hpp
  ·rcases hN1 b hb with h|h
   ·omega
   ·exact(hZ1 b h).1
  ·rcases hN1 b h with h|h|h
   ·have:=hsh.lts hb;omega
   ·exact(hsb b hb).2.1 h
   ·exact(hsb b hb).2.2 h
 have hB1:BM (α:=Ptr Wy) (β:=List A7) (B7 w4 (nB bb (.slice none 0 0) (.slice none 0 0) (fun b=>A4 vi b∨A4 vo b))) w2.drew w4 w4 (fun b=>A4 vi b∨A4 vo b) bb 93 126 22 (fun v=>#[.pointer (some ⟨gs,0,none⟩),v,.slice none 0 0,.slice none 0 0,vi,vo]) (.slice none 0 0) (.slice none 0 0) [] []:=
  ⟨hx3.trans hx4,hdg,hc4,B0.nil _ _ _,B0.nil _ _ _,fun b h=>absurd h C6,fun b h=>absurd h C6,fun b h=>⟨by have:=(hZ1 b h).2;omega,dw9 (hZ1 b h).2 hx4.size⟩,fun _ _=>rfl,ds5 _,d7 _⟩
 have hx24:=hx12d.trans (hx3.trans hx4);have lp4:=ldp w4 (b7 hx24);obtain⟨iw,hiw,hiw1⟩:=aS5 (P:=prog) df7 df1;obtain⟨il,hil,hil1⟩:=aS5 (P:=prog) df8 df2;obtain⟨iS,hiS,hiS1⟩:=aS5 (P:=prog) bN4 cC4;have hSi:=hoi.isS;have hSo:=hoo.isS;simp only[D2,i5,n8,simprocAttr,h19,h23,h27,cq6 (.pointer (some ⟨gs,0,none⟩)) vi vo rfl (D8 hSi) (D8 hSo),hbox,e1,lp4,hSp0,hnp0];refine n9 [1,3,32] (σ:=Nat×Value) (fun s f w'=>f 33 = .int .i64 s.1∧s.1≤p.procs.length∧BM (α:=Ptr Wy) (β:=List A7) (B7 w4 (nB bb (.slice none 0 0) (.slice none 0 0) (fun b=>A4 vi b∨A4 vo b))) w2.drew w4 w' (fun b=>A4 vi b∨A4 vo b) bb 93 126 22 (fun v=>#[.pointer (some ⟨gs,0,none⟩),v,.slice none 0 0,.slice none 0 0,vi,vo]) s.2 (.slice none 0 0) (((J2 p).take s.1).map fun w=>⟨w⟩) []) (fun s=>p.procs.length-s.1) (0,.slice none 0 0) ?_ ?_
 ·simp only[p6,simprocAttr];exact⟨by trivial,dr8 _,by simpa using hB1⟩
 clear hB1;rintro⟨k,vx⟩ f5 w5 hk ⟨h33,hkl,s5⟩;simp only at h33 hkl s5;simp only[dq9,p6,simprocAttr]at hk;obtain⟨g1,g3,g32,_⟩:=hk;rw[e1]at g1;simp only[i5,n8,simprocAttr,h33,g32];refine m8 (fun hc=>?_) (fun hc=>?_)
 ·have hlt:k<p.procs.length:=by simpa using hc
  obtain⟨x,pt⟩:=O8 hr.may hw k hlt;have hwl:(J2 p).length=p.procs.length:=by unfold J2;simp
  have htk:((J2 p).take (k+1)).map (fun w=>(⟨w⟩:Ptr Wy))=((J2 p).take k).map (fun w=>(⟨w⟩:Ptr Wy))++[⟨E2 (b9 p) k⟩]:=by
   rw[dD4,W6 hlt,du1];rfl
  have sd:=s5.more (o7.drew w5);have hcb:∀w',t8 (A4 vx) w5.drew w'→w'.heap[bb]?=some (.cells #[.pointer (some ⟨gs,0,none⟩),vx,.slice none 0 0,.slice none 0 0,vi,vo] 93 (0,0)):=fun w' hm=>(hm.block bb (dr3.1 sd.cb).1 fun h=>(sd.dx bb h).2.1 rfl).trans sd.cb;have k0:∀K f d w0,I1 prog (fun w'=>t8 (A4 vx) w5.drew w') (Instr.loadAt 89 (.pointer (some ⟨bb,0,none⟩))) K f d w0=K (C4 f d (.pointer (some ⟨gs,0,none⟩))) w0:=fun K f d w0=>D5 (w0:=w5.drew) (t8.refl _) fun w' h=>E9 (i:=0) (hcb w' h) rfl bn6;have k1:∀K f d w0,I1 prog (fun w'=>t8 (A4 vx) w5.drew w') (Instr.loadAt 90 (.pointer (some ⟨bb,1,none⟩))) K f d w0=K (C4 f d vx) w0:=fun K f d w0=>D5 (w0:=w5.drew) (t8.refl _) fun w' h=>E9 (i:=1) (hcb w' h) rfl cB4;simp only[i5,simprocAttr,h33];refine C0 (fun w'=>t8 (A4 vx) w5.drew w') 13 (A9 [0,1,2,3,4,5,6,7,8,9,10,11,12]) ?_;simp only[D2,A9,i5,n8,simprocAttr,g3,k0,k1];refine z7 (bW9 ⟨gs,0,none⟩ p k x _ w5.drew (hatS.mono sd.hb) hr hw hlt pt) ?_;rintro _ w6 ⟨gw,vr,vl,rfl,hc6,hge6,hor,hol,hx6⟩;refine⟨t8.up hx6,?_⟩;have s6:=sd.more hx6;have hnw:¬nB bb vx (.slice none 0 0) (fun b=>A4 vi b∨A4 vo b) gw:=fun h=>by have:=sd.lt h;omega
  have hatW:At (B7 w6 (nB bb vx (.slice none 0 0) (fun b=>A4 vi b∨A4 vo b))) ⟨gw,0,none⟩ (E2 (b9 p) k):=cV0 (wy:=E2 (b9 p) k) ((D3 hnw).trans hc6) (hatS.mono s6.base) (sd.freshN hor) (sd.fresh hol);obtain⟨p1,vx',w7,w8,p2,p3,s8,p4⟩:=s6.push (P:=prog) (e:=90) dd5 rfl (x:=.pointer (some ⟨gw,0,none⟩)) (y:=(⟨E2 (b9 p) k⟩:Ptr Wy)) hatW.ptr (by rw[dr9,ds3];omega) (by rw[dr9,ds3];omega) (ix:=1) (by simp) (fun v v'=>by simp) hiw hiw1;simp only[Value.cells]at p1 p2;simp only[D2,i5,n8,simprocAttr,p1,p2,F1];refine⟨(t8.up hx6).trans (t8.up (o7.alloc _ _)),(t8.up hx6).trans p4,?_⟩;simp only[i5,n8,simprocAttr,h33,p3];refine⟨(k+1,vx'),by simp only[];omega,by simp only[];rw[A8 k (by omega)],by simp only[];omega,?_⟩;simp only[];rw[htk];exact s8
 have hge:k=p.procs.length:=by simp at hc;omega
 subst hge;have hwl:(J2 p).length=p.procs.length:=by unfold J2;simp
 rw[dv8 (by omega)]at s5;have hN12:∀b,nB bb (.slice none 0 0) vo (A4 vi) b→nB bb vx (.slice none 0 0) (fun b=>A4 vi b∨A4 vo b) b:=fun b h=>by
  rcases h with h|h|h|h
  ·exact .inl h
  ·exact absurd h C6
  ·exact .inr (.inr (.inr (.inr h)))
  ·exact .inr (.inr (.inr (.inl h)))
 have hl12:B5 (B7 w5 (nB bb vx (.slice none 0 0) (fun b=>A4 vi b∨A4 vo b))) (B7 w5 (nB bb (.slice none 0 0) vo (A4 vi))):=G6 (M:=fun _=>False) (t8.refl w5) (fun _ h=>h.elim) fun b h=>.inl (hN12 b h);have hatS2:=(hatS.mono s5.base).mono hl12;have hvw2:R (B7 w5 (nB bb (.slice none 0 0) vo (A4 vi))) vx ((J2 p).map fun w=>(⟨w⟩:Ptr Wy)):=s5.ox.ro hl12 fun b hb=>D3 fun h=>by
  have hd:=s5.dx b hb;rcases h with h|h|h|h
  ·exact hd.2.1 h
  ·exact C6 h
  ·exact hd.2.2.2 (.inr h)
  ·exact hd.2.2.2 (.inl h)
 have hoo5:B0 (B7 w5 (nB bb (.slice none 0 0) vo (A4 vi))) w5 22 vo (List.replicate p.procs.length ([]:List A7)):=hoo.renil (fun b hb=>H3 (.inr (.inr (.inl hb)))) fun b hb=>(s5.zk b (.inr hb)).trans (hx4.block b (hoo.lt hb) id);have hoi5:∀b,A4 vi b→w5.heap[b]?=w3.heap[b]?:=fun b hb=>(s5.zk b (.inl hb)).trans (hx4.block b (hoi.lt hb) id);have hB2:BM (α:=List A7) (β:=List A7) (B7 w5 (nB bb (.slice none 0 0) vo (A4 vi))) w2.drew w5 w5 (A4 vi) bb 93 22 22 (fun v=>#[.pointer (some ⟨gs,0,none⟩),vx,v,.slice none 0 0,vi,vo]) (.slice none 0 0) vo [] (List.replicate p.procs.length []):=
  ⟨s5.ext,hdg,s5.cb,B0.nil _ _ _,hoo5,fun b h=>absurd h C6,fun b hb=>⟨hgo b hb,by have:=(hZ1 b (.inr hb)).2;omega,fun h=>(hgi b h).2 hb⟩,fun b hb=>⟨by have:=(hZ1 b (.inl hb)).2;omega,s5.lt (.inr (.inr (.inr (.inl hb))))⟩,fun _ _=>rfl,ds5 _,d7 _⟩
 have hvi:∀w',(∀b,A4 vi b→w'.heap[b]?=w5.heap[b]?)→R (i4 w') vi (List.replicate p.procs.length ([]:List A7)):=fun w' h=>(hoi.renil (k:=fun _=>none) (fun _ _=>rfl) fun b hb=>(h b hb).trans (hoi5 b hb)).rw_ fun _ _ h=>by cases h
 clear s5;have hbk2:∀(w':World) (vd:Value) (xs ys:Rws),BM (α:=List A7) (β:=List A7) (B7 w5 (nB bb (.slice none 0 0) vo (A4 vi))) w2.drew w5 w' (A4 vi) bb 93 22 22 (fun v=>#[.pointer (some ⟨gs,0,none⟩),vx,v,.slice none 0 0,vi,vo]) vd vo xs ys→At (i4 w') ⟨bb,0,none⟩ (⟨b9 p,J2 p,xs,[],List.replicate p.procs.length [],ys⟩:Bk):=fun w' vd xs ys s=>cN0 s.cb (hatS2.mono s.hb) (A3.mono s.hb hvw2) s.rx (aB4 _) (hvi w' s.zk) s.ry;obtain⟨_,_,_,hvL2,_,_,_,ldS2,_⟩:=hatS2.sh;have h200:=G9 hr.may;have hitw:=Z5 p hw;have hC2:az9 (F9 p) p.procs.length 25:=aM3 hr.may;simp only[i5,simprocAttr];refine n9 [1,3] (σ:=(Value×Nat)×(Bool×Rws)) (fun s f w'=>f 5 = .bool s.2.1∧BM (α:=List A7) (β:=List A7) (B7 w5 (nB bb (.slice none 0 0) vo (A4 vi))) w2.drew w5 w' (A4 vi) bb 93 22 22 (fun v=>#[.pointer (some ⟨gs,0,none⟩),vx,v,.slice none 0 0,vi,vo]) s.1.1 vo s.2.2 (F8 (F9 p) s.1.2 (List.replicate p.procs.length []))∧s.1.2≤aw1 (F8 (F9 p) s.1.2 (List.replicate p.procs.length []))∧(s.2.1=false→F9 p (F8 (F9 p) s.1.2 (List.replicate p.procs.length []))=F8 (F9 p) s.1.2 (List.replicate p.procs.length [])∧s.2.2=H8 p (F8 (F9 p) s.1.2 (List.replicate p.procs.length [])))) (fun s=>if s.2.1 then p.procs.length*25+2-aw1 (F8 (F9 p) s.1.2 (List.replicate p.procs.length []))else 0) ((.slice none 0 0,0),(true,[])) ?_ ?_
 ·simp only[p6,simprocAttr];exact⟨by trivial,hB2,dr8 _,fun h=>by cases h⟩
 clear hB2;rintro⟨⟨vx2,K2⟩,mo2,xs2⟩ f2a w2a hk ⟨hmo2,s2a,hKt2,hfin2⟩;simp only at hmo2 s2a hKt2 hfin2;simp only[dq9,p6,simprocAttr]at hk;obtain⟨a21,a23,_⟩:=hk;rw[g1]at a21;rw[g3]at a23;have hY2:=hC2.iter_ok K2;have hNew2:=hC2.ok (F8 (F9 p) K2 (List.replicate p.procs.length []));have hMore2:=hC2.more K2;have hBd2:=hC2.bound K2;have hBd2':=hC2.bound (K2+1);have hSu2:=ag0 (F9 p) K2 (List.replicate p.procs.length []);simp only[i5,simprocAttr,hmo2];refine m8 (fun hc=>?_) (fun hc=>?_)
 ·subst hc;clear hfin2;generalize hYe2:F8 (F9 p) K2 (List.replicate p.procs.length [])=Y2 at *;generalize hNe2:F9 p Y2=Q2 at *;obtain⟨w2b,z2,s2b⟩:=s2a.reset (P:=prog) (t:=91) (ix:=2) (by simp) (fun v v'=>by simp) hil hil1;have ld20:(Instr.loadAt 89 (.pointer (some ⟨bb,0,none⟩))).run prog w2b = .ok (.pointer (some ⟨gs,0,none⟩)) w2b:=E9 (i:=0) s2b.cb rfl bn6;have lds2:=ldS2 w2b s2b.hb;simp only[add_lit,du4]at lds2;have hSl2:=hvL2.isS;have hnl2:=hvL2.vlen;simp only[i5,n8,simprocAttr,a23,z2,ld20,lds2,hSl2,hnl2];refine n9 [1,3,5,62,63] (σ:=Nat×Value) (fun s f w'=>f 64 = .int .i64 s.1∧s.1≤(b9 p).l.length∧BM (α:=List A7) (β:=List A7) (B7 w5 (nB bb (.slice none 0 0) vo (A4 vi))) w2.drew w5 w' (A4 vi) bb 93 22 22 (fun v=>#[.pointer (some ⟨gs,0,none⟩),vx,v,.slice none 0 0,vi,vo]) s.2 vo (((b9 p).l.take s.1).map fun it=>C9 (ak6 p Y2 it.s)) Y2) (fun s=>(b9 p).l.length-s.1) (0,.slice none 0 0) ?_ ?_
  ·simp only[p6,simprocAttr];exact⟨by trivial,dr8 _,s2b⟩
  clear s2b s2a;rintro⟨m,vd⟩ f7 w7 hk ⟨hmi,hml,s7⟩;simp only at hmi hml s7;simp only[dq9,p6,simprocAttr]at hk;obtain⟨b1,b3,bm,bl,bn,_⟩:=hk;rw[a21]at b1;rw[a23]at b3;simp only[i5,n8,simprocAttr,hmi,bn];refine m8 (fun hc=>?_) (fun hc=>?_)
  ·have hlt:m<(b9 p).l.length:=by simpa using hc
   have hin:=hvL2.inS hlt;obtain⟨sv,hsv,hld⟩:=E4 (P:=prog) (t:=121) hvL2 (s7.hb) (dq7 hlt) ab1 ab2 Z1 I7;rw[I7]at hld;have htk:((b9 p).l.take (m+1)).map (fun it=>C9 (ak6 p Y2 it.s))=((b9 p).l.take m).map (fun it=>C9 (ak6 p Y2 it.s))++[C9 (ak6 p Y2 (b9 p).l[m].s)]:=by
    rw[dr6 hlt,du1];rfl
   have hfits:=hr.fits _ (dr5 hlt);have hwts:=hitw _ (dr5 hlt);have hlen1:((((b9 p).l.take m).map fun it=>C9 (ak6 p Y2 it.s))).length≤200:=by rw[dr9,ds3];omega
   generalize(b9 p).l[m]=it at hsv htk hfits hwts;generalize((b9 p).l.take m).map (fun it=>C9 (ak6 p Y2 it.s))=xs at s7 htk hlen1;obtain⟨d,wz8,w8,hal,hst,hx8,hati⟩:=aI8 (w:=w7) (A4 vd) hsv (fun b hb=>s7.ox.lt hb);obtain⟨us,hus,hats,_,_⟩:=I2.it hsv hati;have s8:=(s7.more hx8).more (o7.drew w8);have hcb:∀w',t8 (A4 vd) w8.drew w'→w'.heap[bb]?=some (.cells ((fun v=>#[.pointer (some ⟨gs,0,none⟩),vx,v,.slice none 0 0,vi,vo]) vd) 93 (0,0)):=fun w' hm=>(hm.block bb (dr3.1 s8.cb).1 fun h=>(s8.dx bb h).2.1 rfl).trans s8.cb;have k2:∀K f d w0,I1 prog (fun w'=>t8 (A4 vd) w8.drew w') (Instr.loadAt 91 (.pointer (some ⟨bb,2,none⟩))) K f d w0=K (C4 f d vd) w0:=fun K f d w0=>D5 (w0:=w8.drew) (t8.refl _) fun w' h=>E9 (i:=2) (hcb w' h) rfl al1;have k3:=(I2.st_v hus hats).2 (fun w'=>t8 (A4 vd) w8.drew w') w8.drew (t8.refl _) fun w' h=>C8 ((t8.up (M:=A4 vd) (o7.drew w8)).trans h);simp only[i5,n8,z6,simprocAttr,hmi,bl,hin,hld,hal,hst];refine C0 (fun w'=>t8 (A4 vd) w8.drew w') 12 (A9 [0,1,2,3,4,5,6,7,8,9,10,11]) ?_;simp only[D2,A9,i5,n8,simprocAttr,b3,k2,k3];refine z7 (ct4 ⟨bb,0,none⟩ ⟨b9 p,J2 p,_,[],List.replicate p.procs.length [],_⟩ p us it.s w8.drew (hbk2 _ _ _ _ s8) ⟨rfl,hY2,bl5 _ _⟩ hr.may (hus.mono s8.hb) hwts hfits) ?_;rintro u9 w9 ⟨ho9,hx9⟩;refine⟨t8.up hx9,?_⟩;simp only[D2,i5,simprocAttr];refine z7 (ag5 ho9 (dr7 (aG6 hr.may hY2 hfits) (by decide))) ?_;rintro u10 w10 ⟨ho10,hm10,_⟩;have hx10:o7 w8.drew w10:=ho9.ext2 hx9 hm10;refine⟨t8.up hx10,?_⟩;have s10:=s8.more hx10;obtain⟨p1,vd',w11,w12,p2,p3,s12,p4⟩:=s10.push (P:=prog) (e:=91) cd3 rfl (x:=u10) (y:=C9 (ak6 p Y2 it.s)) (by rw[D8 ho10.isS];exact s8.fresh ho10) (by omega) (by omega) (ix:=2) (by simp) (fun v v'=>by simp) hil hil1;rw[D8 ho10.isS]at p1 p2;simp only[D2,i5,n8,simprocAttr,p1,p2,F1];refine⟨(t8.up hx10).trans (t8.up (o7.alloc _ _)),(t8.up hx10).trans p4,?_⟩;simp only[i5,n8,simprocAttr,hmi,p3];refine⟨(m+1,vd'),by simp only[];omega,by simp only[];rw[A8 m (by omega)],by simp only[];omega,?_⟩;simp only[];rw[htk];exact s12
  have hge:m=(b9 p).l.length:=by simp at hc;omega
  subst hge;rw[ds2]at s7;have hAll:((b9 p).l.map fun it=>C9 (ak6 p Y2 it.s))=H8 p Y2:=rfl;rw[hAll]at s7;have hxsok:L0 (b9 p).l.length 100 (H8 p Y2):=aR6 fun it hit=>aG6 hr.may hY2 (hr.fits it hit);have lp7:=ldp w7 (b7 (hx12d.trans s7.ext));simp only[i5,n8,simprocAttr,b1,lp7,hSp0,hnp0];refine n9 [1,3,85] (σ:=Nat×Bool) (fun s f w'=>f 86 = .int .i64 s.1∧s.1≤p.procs.length∧f 5 = .bool s.2∧BM (α:=List A7) (β:=List A7) (B7 w5 (nB bb (.slice none 0 0) vo (A4 vi))) w2.drew w5 w' (A4 vi) bb 93 22 22 (fun v=>#[.pointer (some ⟨gs,0,none⟩),vx,v,.slice none 0 0,vi,vo]) vd vo (H8 p Y2) (aM1 Q2 Y2 s.1)∧(s.2=false→Q2.take s.1=Y2.take s.1)∧(s.2=true→Q2≠Y2)) (fun s=>p.procs.length-s.1) (0,false) ?_ ?_
  ·simp only[p6,simprocAttr];exact⟨by trivial,dr8 _,bm,by rw[bI8];exact s7,fun _=>by simp,fun h=>by cases h⟩
  clear s7;rintro⟨i,mo⟩ f8 w8 hk ⟨hii,hil',hmo,s8,hmf,hmt⟩;simp only at hii hil' hmo s8 hmf hmt;simp only[dq9,p6,simprocAttr]at hk;obtain⟨c1,c3,cn,_⟩:=hk;rw[b1]at c1;rw[b3]at c3;simp only[i5,n8,simprocAttr,hii,cn];refine m8 (fun hc=>?_) (fun hc=>?_);rotate_left
  ·have hge:i=p.procs.length:=by simp at hc;omega
   subst hge;rw[cc1 hNew2.len hY2.len]at s8;rw[dv8 (by rw[hNew2.len];exact ds5 _),dv8 (by rw[hY2.len];exact ds5 _)]at hmf;cases mo with
   | false=>
    have e:=hmf rfl;simp only[i5,simprocAttr];refine⟨((vd,K2),(false,H8 p Y2)),?_,hmo,?_,?_,fun _=>?_⟩
    ·simp only[hYe2];simp;omega
    ·simp only[hYe2];rw[e]at s8;exact s8
    ·simp only[hYe2];exact hKt2
    ·simp only[hYe2];exact⟨hNe2.trans e,trivial⟩
   | true=>
    have e:=hmt rfl;have hlt:=hMore2 e;rw[hSu2]at hlt hBd2';simp only[i5,simprocAttr];refine⟨((vd,K2+1),(true,H8 p Y2)),?_,hmo,?_,?_,fun h=>by cases h⟩
    ·simp only[hSu2];simp;omega
    ·simp only[hSu2];exact s8
    ·simp only[hSu2];omega
  have hlt:i<p.procs.length:=by simpa using hc
  have hqi:Q2[i]?=some (C9 (aa9 p (H8 p Y2) i)):=by
   rw[←hNe2];unfold F9;rw[du5,dz8 hlt];rfl
  have hyi:Y2[i]?=some (Y2[i]'(by rw[hY2.len];exact hlt)):=dq7 _;have hmi2:=cc2 (old:=Y2) hNew2.len hlt;rw[hyi]at hmi2;have hms:=cc3 hNew2.len hY2.len hlt hqi;have hmk:=cx4 (i:=i) hNew2 hY2;have hml:=bA6 (i:=i) hNew2.len hY2.len;have htq:Q2.take (i+1)=Q2.take i++[C9 (aa9 p (H8 p Y2) i)]:=by rw[dD4,hqi];rfl
  have hty:Y2.take (i+1)=Y2.take i++[Y2[i]'(by rw[hY2.len];exact hlt)]:=by rw[dD4,hyi];rfl
  simp only[i5,simprocAttr,hii,c3];refine z7 (cy5 ⟨bb,0,none⟩ ⟨b9 p,J2 p,_,[],List.replicate p.procs.length [],_⟩ p i w8 (hbk2 _ _ _ _ s8) ⟨rfl,hmk,bl5 _ _⟩ rfl hxsok hr hw hlt) ?_;rintro u9 w9 ⟨ho9,hx9⟩;simp only[i5,simprocAttr];refine z7 (ag5 ho9 (dr7 (bT3 hr.may hxsok h200 i hw hlt) (by decide))) ?_;rintro u10 w10 ⟨ho10,hm10,_⟩;have hx10:o7 w8 w10:=ho9.ext2 hx9 hm10;have s10:=s8.more hx10;have hfew10:(C9 (aa9 p (H8 p Y2) i)).length≤25:=hNew2.few _ (ds9 hqi);have hfewy:(Y2[i]'(by rw[hY2.len];exact hlt)).length≤25:=hY2.few _ (dr5 _);have hyi2:=hyi;generalize Y2[i]'(by rw[hY2.len];exact hlt)=yi at hmi2 hty hfewy hyi2;generalize C9 (aa9 p (H8 p Y2) i)=qi at hqi hms htq ho10 hfew10;have hfr:=s8.fresh ho10;have hine:=s10.oy.inS (k:=i) (by omega);cases mo with
  | true=>
   obtain⟨w12,q1,s12⟩:=s10.set (P:=prog) (t:=22) rfl (k:=i) (by omega) (u:=u10) (y:=qi) hfr (D8 ho10.isS) hiS hiS1;rw[hms]at s12;have ld5:(Instr.loadAt 91 (.pointer (some ⟨bb,5,none⟩))).run prog w10 = .ok vo w10:=E9 (i:=5) s10.cb rfl al1;simp only[i5,n8,z6,simprocAttr,hmo,hii,c3,ld5,hine,q1];refine⟨(i+1,true),by simp only[];omega,by simp only[];rw[A8 i (by omega)],by simp only[];omega,by trivial,s12,(fun h=>by cases h),fun _=>hmt rfl⟩
  | false=>
   obtain⟨ur,hur,hldr⟩:=bb3 (P:=prog) (t:=22) s10.oy hmi2 N0;have ld5:(Instr.loadAt 91 (.pointer (some ⟨bb,5,none⟩))).run prog w10 = .ok vo w10:=E9 (i:=5) s10.cb rfl al1;simp only[i5,n8,z6,simprocAttr,hmo,c3,ld5,hine,hldr];refine z7 (bh7 u10 ur qi yi w10 (ho10.rw_ (b7 hx10)) (A3.mono (B3 _ _) hur) (by omega) (by omega)) ?_;rintro _ w11 ⟨rfl,hx11⟩;have s11:=s10.more hx11;have hfr11:=A3.mono (G6 hx11 (fun _ h=>h.elim) fun b h=>.inl h) hfr;obtain⟨w12,q1,s12⟩:=s11.set (P:=prog) (t:=22) rfl (k:=i) (by omega) (u:=u10) (y:=qi) hfr11 (D8 ho10.isS) hiS hiS1;rw[hms]at s12;have ld5':(Instr.loadAt 91 (.pointer (some ⟨bb,5,none⟩))).run prog w11 = .ok vo w11:=E9 (i:=5) s11.cb rfl al1;rcases dq8 (decide (qi=yi))with he|he
   ·have e:=dr0 he;simp only[i5,n8,z6,simprocAttr,he,hii,c3,ld5',hine,q1];refine⟨(i+1,false),by simp only[];omega,by simp only[];rw[A8 i (by omega)],by simp only[];omega,by trivial,s12,fun _=>?_,fun h=>by cases h⟩;simp only[];rw[htq,hty,hmf rfl,e]
   ·have e:=dr2 he;simp only[i5,n8,z6,simprocAttr,he,hii,c3,ld5',hine,q1];refine⟨(i+1,true),by simp only[];omega,by simp only[];rw[A8 i (by omega)],by simp only[];omega,by trivial,s12,(fun h=>by cases h),fun _ h=>e ?_⟩;have h1:=ds7 (fun l:Rws=>l[i]?) h;simp only[hqi,hyi2]at h1;exact ds8 h1
 have hfx:=hfin2 hc;have hOut:J1 p=F8 (F9 p) K2 (List.replicate p.procs.length []):=aO7 K2 1000 _ (by omega) hfx.1;rw[←hOut]at s2a hfx hY2;rw[hfx.2]at s2a;have hOo:=hY2;have hDo:L0 (b9 p).l.length 100 (H8 p (J1 p)):=aR6 fun it hit=>aG6 hr.may hOo (hr.fits it hit);clear hfin2 hfx hMore2 hSu2 hNew2;generalize hOUT:J1 p=OUTS at *;generalize hDEF:H8 p OUTS=DEFS at *;have hl23:B5 (B7 w2a (nB bb vx2 vo (A4 vi))) (B7 w2a (nB bb (.slice none 0 0) vi (fun _=>False))):=G6 (M:=fun _=>False) (t8.refl w2a) (fun _ h=>h.elim) fun b h=>.inl (by
  rcases h with h|h|h|h
  ·exact .inl h
  ·exact absurd h C6
  ·exact .inr (.inr (.inr h))
  ·exact h.elim)
 have hatS3:=(hatS2.mono s2a.base).mono hl23;have hvw3:=A3.mono hl23 (A3.mono s2a.base hvw2);have hvd3:R (B7 w2a (nB bb (.slice none 0 0) vi (fun _=>False))) vx2 DEFS:=s2a.ox.ro hl23 fun b hb=>D3 fun h=>by
  have hd:=s2a.dx b hb;rcases h with h|h|h|h
  ·exact hd.2.1 h
  ·exact C6 h
  ·exact hd.2.2.2 h
  ·exact h.elim
 have hvo3:R (B7 w2a (nB bb (.slice none 0 0) vi (fun _=>False))) vo OUTS:=s2a.oy.ro hl23 fun b hb=>D3 fun h=>by
  have hd:=s2a.dy b hb;rcases h with h|h|h|h
  ·exact hd.2.1 h
  ·exact C6 h
  ·exact hd.2.2 h
  ·exact h.elim
 have hoi3:B0 (B7 w2a (nB bb (.slice none 0 0) vi (fun _=>False))) w2a 22 vi (List.replicate p.procs.length ([]:List A7)):=hoi.renil (fun b hb=>H3 (.inr (.inr (.inl hb)))) fun b hb=>(s2a.zk b hb).trans (hoi5 b hb);have hB3:BM (α:=List A7) (β:=List A7) (B7 w2a (nB bb (.slice none 0 0) vi (fun _=>False))) w2.drew w2a w2a (fun _=>False) bb 93 22 22 (fun v=>#[.pointer (some ⟨gs,0,none⟩),vx,vx2,v,vi,vo]) (.slice none 0 0) vi [] (List.replicate p.procs.length []):=
  ⟨s2a.ext,hdg,s2a.cb,B0.nil _ _ _,hoi3,fun b h=>absurd h C6,fun b hb=>⟨(hgi b hb).1,by have:=(hZ1 b (.inl hb)).2;omega,id⟩,fun b hb=>hb.elim,fun b hb=>hb.elim,ds5 _,d7 _⟩
 clear s2a;have hbk3:∀(w':World) (vd:Value) (xs ys:Rws),BM (α:=List A7) (β:=List A7) (B7 w2a (nB bb (.slice none 0 0) vi (fun _=>False))) w2.drew w2a w' (fun _=>False) bb 93 22 22 (fun v=>#[.pointer (some ⟨gs,0,none⟩),vx,vx2,v,vi,vo]) vd vi xs ys→At (i4 w') ⟨bb,0,none⟩ (⟨b9 p,J2 p,DEFS,xs,ys,OUTS⟩:Bk):=fun w' vd xs ys s=>cN0 s.cb (hatS3.mono s.hb) (A3.mono s.hb hvw3) (A3.mono s.hb hvd3) s.rx s.ry (A3.mono s.hb hvo3);obtain⟨_,_,_,hvL3,_,_,_,ldS3,_⟩:=hatS3.sh;have hC3:az9 (N9 p OUTS DEFS) p.procs.length 25:=aV1 hr.may OUTS DEFS fun i hi=>bS9 hr hw i hi;simp only[i5,simprocAttr];refine n9 [1,3] (σ:=(Value×Nat)×(Bool×Rws)) (fun s f w'=>f 10 = .bool s.2.1∧BM (α:=List A7) (β:=List A7) (B7 w2a (nB bb (.slice none 0 0) vi (fun _=>False))) w2.drew w2a w' (fun _=>False) bb 93 22 22 (fun v=>#[.pointer (some ⟨gs,0,none⟩),vx,vx2,v,vi,vo]) s.1.1 vi s.2.2 (F8 (N9 p OUTS DEFS) s.1.2 (List.replicate p.procs.length []))∧s.1.2≤aw1 (F8 (N9 p OUTS DEFS) s.1.2 (List.replicate p.procs.length []))∧(s.2.1=false→N9 p OUTS DEFS (F8 (N9 p OUTS DEFS) s.1.2 (List.replicate p.procs.length []))=F8 (N9 p OUTS DEFS) s.1.2 (List.replicate p.procs.length [])∧s.2.2=M5 p (F8 (N9 p OUTS DEFS) s.1.2 (List.replicate p.procs.length [])))) (fun s=>if s.2.1 then p.procs.length*25+2-aw1 (F8 (N9 p OUTS DEFS) s.1.2 (List.replicate p.procs.length []))else 0) ((.slice none 0 0,0),(true,[])) ?_ ?_
 ·simp only[p6,simprocAttr];exact⟨by trivial,hB3,dr8 _,fun h=>by cases h⟩
 clear hB3;rintro⟨⟨vx3,K3⟩,mo3,xs3⟩ f3a w3a hk ⟨hmo3,s3a,hKt3,hfin3⟩;simp only at hmo3 s3a hKt3 hfin3;simp only[dq9,p6,simprocAttr]at hk;obtain⟨a31,a33,_⟩:=hk;rw[a21]at a31;rw[a23]at a33;have hY3:=hC3.iter_ok K3;have hNew3:=hC3.ok (F8 (N9 p OUTS DEFS) K3 (List.replicate p.procs.length []));have hMore3:=hC3.more K3;have hBd3:=hC3.bound K3;have hBd3':=hC3.bound (K3+1);have hSu3:=ag0 (N9 p OUTS DEFS) K3 (List.replicate p.procs.length []);simp only[i5,simprocAttr,hmo3];refine m8 (fun hc=>?_) (fun hc=>?_)
 ·subst hc;clear hfin3;generalize hYe3:F8 (N9 p OUTS DEFS) K3 (List.replicate p.procs.length [])=Y3 at *;generalize hNe3:N9 p OUTS DEFS Y3=Q3 at *;obtain⟨w3b,z3,s3b⟩:=s3a.reset (P:=prog) (t:=91) (ix:=3) (by simp) (fun v v'=>by simp) hil hil1;have ld30:(Instr.loadAt 89 (.pointer (some ⟨bb,0,none⟩))).run prog w3b = .ok (.pointer (some ⟨gs,0,none⟩)) w3b:=E9 (i:=0) s3b.cb rfl bn6;have lds3:=ldS3 w3b s3b.hb;simp only[add_lit,du4]at lds3;have hSl3:=hvL3.isS;have hnl3:=hvL3.vlen;simp only[i5,n8,simprocAttr,a33,z3,ld30,lds3,hSl3,hnl3];refine n9 [1,3,10,124,125] (σ:=Nat×Value) (fun s f w'=>f 126 = .int .i64 s.1∧s.1≤(b9 p).l.length∧BM (α:=List A7) (β:=List A7) (B7 w2a (nB bb (.slice none 0 0) vi (fun _=>False))) w2.drew w2a w' (fun _=>False) bb 93 22 22 (fun v=>#[.pointer (some ⟨gs,0,none⟩),vx,vx2,v,vi,vo]) s.2 vi (((b9 p).l.take s.1).map fun it=>C9 (al2 p Y3 it.s)) Y3) (fun s=>(b9 p).l.length-s.1) (0,.slice none 0 0) ?_ ?_
  ·simp only[p6,simprocAttr];exact⟨by trivial,dr8 _,s3b⟩
  clear s3b s3a;rintro⟨m,vd⟩ f7 w7 hk ⟨hmi,hml,s7⟩;simp only at hmi hml s7;simp only[dq9,p6,simprocAttr]at hk;obtain⟨b1,b3,bm,bl,bn,_⟩:=hk;rw[a31]at b1;rw[a33]at b3;simp only[i5,n8,simprocAttr,hmi,bn];refine m8 (fun hc=>?_) (fun hc=>?_)
  ·have hlt:m<(b9 p).l.length:=by simpa using hc
   have hin:=hvL3.inS hlt;obtain⟨sv,hsv,hld⟩:=E4 (P:=prog) (t:=121) hvL3 (s7.hb) (dq7 hlt) ab1 ab2 Z1 I7;rw[I7]at hld;have htk:((b9 p).l.take (m+1)).map (fun it=>C9 (al2 p Y3 it.s))=((b9 p).l.take m).map (fun it=>C9 (al2 p Y3 it.s))++[C9 (al2 p Y3 (b9 p).l[m].s)]:=by
    rw[dr6 hlt,du1];rfl
   have hfits:=hr.fits _ (dr5 hlt);have hwts:=hitw _ (dr5 hlt);have hlen1:((((b9 p).l.take m).map fun it=>C9 (al2 p Y3 it.s))).length≤200:=by rw[dr9,ds3];omega
   generalize(b9 p).l[m]=it at hsv htk hfits hwts;generalize((b9 p).l.take m).map (fun it=>C9 (al2 p Y3 it.s))=xs at s7 htk hlen1;obtain⟨d,wz8,w8,hal,hst,hx8,hati⟩:=aI8 (w:=w7) (A4 vd) hsv (fun b hb=>s7.ox.lt hb);obtain⟨us,hus,hats,_,_⟩:=I2.it hsv hati;have s8:=(s7.more hx8).more (o7.drew w8);have hcb:∀w',t8 (A4 vd) w8.drew w'→w'.heap[bb]?=some (.cells ((fun v=>#[.pointer (some ⟨gs,0,none⟩),vx,vx2,v,vi,vo]) vd) 93 (0,0)):=fun w' hm=>(hm.block bb (dr3.1 s8.cb).1 fun h=>(s8.dx bb h).2.1 rfl).trans s8.cb;have k2:∀K f d w0,I1 prog (fun w'=>t8 (A4 vd) w8.drew w') (Instr.loadAt 91 (.pointer (some ⟨bb,3,none⟩))) K f d w0=K (C4 f d vd) w0:=fun K f d w0=>D5 (w0:=w8.drew) (t8.refl _) fun w' h=>E9 (i:=3) (hcb w' h) rfl al1;have k3:=(I2.st_v hus hats).2 (fun w'=>t8 (A4 vd) w8.drew w') w8.drew (t8.refl _) fun w' h=>C8 ((t8.up (M:=A4 vd) (o7.drew w8)).trans h);simp only[i5,n8,z6,simprocAttr,hmi,bl,hin,hld,hal,hst];refine C0 (fun w'=>t8 (A4 vd) w8.drew w') 12 (A9 [0,1,2,3,4,5,6,7,8,9,10,11]) ?_;simp only[D2,A9,i5,n8,simprocAttr,b3,k2,k3];refine z7 (cD6 ⟨bb,0,none⟩ ⟨b9 p,J2 p,DEFS,_,_,OUTS⟩ p us it.s w8.drew (hbk3 _ _ _ _ s8) ⟨rfl,hOo,hY3⟩ hr.may (hus.mono s8.hb) hwts hfits) ?_;rintro u9 w9 ⟨ho9,hx9⟩;refine⟨t8.up hx9,?_⟩;simp only[D2,i5,simprocAttr];refine z7 (ag5 ho9 (dr7 (aX9 hY3 hwts) (by decide))) ?_;rintro u10 w10 ⟨ho10,hm10,_⟩;have hx10:o7 w8.drew w10:=ho9.ext2 hx9 hm10;refine⟨t8.up hx10,?_⟩;have s10:=s8.more hx10;obtain⟨p1,vd',w11,w12,p2,p3,s12,p4⟩:=s10.push (P:=prog) (e:=91) cd3 rfl (x:=u10) (y:=C9 (al2 p Y3 it.s)) (by rw[D8 ho10.isS];exact s8.fresh ho10) (by omega) (by omega) (ix:=3) (by simp) (fun v v'=>by simp) hil hil1;rw[D8 ho10.isS]at p1 p2;simp only[D2,i5,n8,simprocAttr,p1,p2,F1];refine⟨(t8.up hx10).trans (t8.up (o7.alloc _ _)),(t8.up hx10).trans p4,?_⟩;simp only[i5,n8,simprocAttr,hmi,p3];refine⟨(m+1,vd'),by simp only[];omega,by simp only[];rw[A8 m (by omega)],by simp only[];omega,?_⟩;simp only[];rw[htk];exact s12
  have hge:m=(b9 p).l.length:=by simp at hc;omega
  subst hge;rw[ds2]at s7;have hAll:((b9 p).l.map fun it=>C9 (al2 p Y3 it.s))=M5 p Y3:=rfl;rw[hAll]at s7;have hxsok:L0 (b9 p).l.length 2000000 (M5 p Y3):=aR6 fun it hit=>aX9 hY3 (hitw it hit);have lp7:=ldp w7 (b7 (hx12d.trans s7.ext));simp only[i5,n8,simprocAttr,b1,lp7,hSp0,hnp0];refine n9 [1,3,147] (σ:=Nat×Bool) (fun s f w'=>f 148 = .int .i64 s.1∧s.1≤p.procs.length∧f 10 = .bool s.2∧BM (α:=List A7) (β:=List A7) (B7 w2a (nB bb (.slice none 0 0) vi (fun _=>False))) w2.drew w2a w' (fun _=>False) bb 93 22 22 (fun v=>#[.pointer (some ⟨gs,0,none⟩),vx,vx2,v,vi,vo]) vd vi (M5 p Y3) (aM1 Q3 Y3 s.1)∧(s.2=false→Q3.take s.1=Y3.take s.1)∧(s.2=true→Q3≠Y3)) (fun s=>p.procs.length-s.1) (0,false) ?_ ?_
  ·simp only[p6,simprocAttr];exact⟨by trivial,dr8 _,bm,by rw[bI8];exact s7,fun _=>by simp,fun h=>by cases h⟩
  clear s7;rintro⟨i,mo⟩ f8 w8 hk ⟨hii,hil',hmo,s8,hmf,hmt⟩;simp only at hii hil' hmo s8 hmf hmt;simp only[dq9,p6,simprocAttr]at hk;obtain⟨c1,c3,cn,_⟩:=hk;rw[b1]at c1;rw[b3]at c3;simp only[i5,n8,simprocAttr,hii,cn];refine m8 (fun hc=>?_) (fun hc=>?_);rotate_left
  ·have hge:i=p.procs.length:=by simp at hc;omega
   subst hge;rw[cc1 hNew3.len hY3.len]at s8;rw[dv8 (by rw[hNew3.len];exact ds5 _),dv8 (by rw[hY3.len];exact ds5 _)]at hmf;cases mo with
   | false=>
    have e:=hmf rfl;simp only[i5,simprocAttr];refine⟨((vd,K3),(false,M5 p Y3)),?_,hmo,?_,?_,fun _=>?_⟩
    ·simp only[hYe3];simp;omega
    ·simp only[hYe3];rw[e]at s8;exact s8
    ·simp only[hYe3];exact hKt3
    ·simp only[hYe3];exact⟨hNe3.trans e,trivial⟩
   | true=>
    have e:=hmt rfl;have hlt:=hMore3 e;rw[hSu3]at hlt hBd3';simp only[i5,simprocAttr];refine⟨((vd,K3+1),(true,M5 p Y3)),?_,hmo,?_,?_,fun h=>by cases h⟩
    ·simp only[hSu3];simp;omega
    ·simp only[hSu3];exact s8
    ·simp only[hSu3];omega
  have hlt:i<p.procs.length:=by simpa using hc
  have hqi:Q3[i]?=some (C9 (aA3 p OUTS (M5 p Y3) DEFS i)):=by
   rw[←hNe3];unfold N9;rw[du5,dz8 hlt];rfl
  have hyi:Y3[i]?=some (Y3[i]'(by rw[hY3.len];exact hlt)):=dq7 _;have hmi2:=cc2 (old:=Y3) hNew3.len hlt;rw[hyi]at hmi2;have hms:=cc3 hNew3.len hY3.len hlt hqi;have hmk:=cx4 (i:=i) hNew3 hY3;have hml:=bA6 (i:=i) hNew3.len hY3.len;have htq:Q3.take (i+1)=Q3.take i++[C9 (aA3 p OUTS (M5 p Y3) DEFS i)]:=by rw[dD4,hqi];rfl
  have hty:Y3.take (i+1)=Y3.take i++[Y3[i]'(by rw[hY3.len];exact hlt)]:=by rw[dD4,hyi];rfl
  simp only[i5,simprocAttr,hii,c3];refine z7 (cI5 ⟨bb,0,none⟩ ⟨b9 p,J2 p,DEFS,_,_,OUTS⟩ p i w8 (hbk3 _ _ _ _ s8) ⟨rfl,hOo,hmk⟩ rfl hDo hxsok hr hw hlt) ?_;rintro u9 w9 ⟨ho9,hx9⟩;simp only[i5,simprocAttr];refine z7 (ag5 ho9 (dr7 (ck5 hr.may OUTS (M5 p Y3) DEFS i) (by decide))) ?_;rintro u10 w10 ⟨ho10,hm10,_⟩;have hx10:o7 w8 w10:=ho9.ext2 hx9 hm10;have s10:=s8.more hx10;have hfew10:(C9 (aA3 p OUTS (M5 p Y3) DEFS i)).length≤25:=hNew3.few _ (ds9 hqi);have hfewy:(Y3[i]'(by rw[hY3.len];exact hlt)).length≤25:=hY3.few _ (dr5 _);have hyi2:=hyi;generalize Y3[i]'(by rw[hY3.len];exact hlt)=yi at hmi2 hty hfewy hyi2;generalize C9 (aA3 p OUTS (M5 p Y3) DEFS i)=qi at hqi hms htq ho10 hfew10;have hfr:=s8.fresh ho10;have hine:=s10.oy.inS (k:=i) (by omega);cases mo with
  | true=>
   obtain⟨w12,q1,s12⟩:=s10.set (P:=prog) (t:=22) rfl (k:=i) (by omega) (u:=u10) (y:=qi) hfr (D8 ho10.isS) hiS hiS1;rw[hms]at s12;have ld5:(Instr.loadAt 91 (.pointer (some ⟨bb,4,none⟩))).run prog w10 = .ok vi w10:=E9 (i:=4) s10.cb rfl al1;simp only[i5,n8,z6,simprocAttr,hmo,hii,c3,ld5,hine,q1];refine⟨(i+1,true),by simp only[];omega,by simp only[];rw[A8 i (by omega)],by simp only[];omega,by trivial,s12,(fun h=>by cases h),fun _=>hmt rfl⟩
  | false=>
   obtain⟨ur,hur,hldr⟩:=bb3 (P:=prog) (t:=22) s10.oy hmi2 N0;have ld5:(Instr.loadAt 91 (.pointer (some ⟨bb,4,none⟩))).run prog w10 = .ok vi w10:=E9 (i:=4) s10.cb rfl al1;simp only[i5,n8,z6,simprocAttr,hmo,c3,ld5,hine,hldr];refine z7 (bh7 u10 ur qi yi w10 (ho10.rw_ (b7 hx10)) (A3.mono (B3 _ _) hur) (by omega) (by omega)) ?_;rintro _ w11 ⟨rfl,hx11⟩;have s11:=s10.more hx11;have hfr11:=A3.mono (G6 hx11 (fun _ h=>h.elim) fun b h=>.inl h) hfr;obtain⟨w12,q1,s12⟩:=s11.set (P:=prog) (t:=22) rfl (k:=i) (by omega) (u:=u10) (y:=qi) hfr11 (D8 ho10.isS) hiS hiS1;rw[hms]at s12;have ld5':(Instr.loadAt 91 (.pointer (some ⟨bb,4,none⟩))).run prog w11 = .ok vi w11:=E9 (i:=4) s11.cb rfl al1;rcases dq8 (decide (qi=yi))with he|he
   ·have e:=dr0 he;simp only[i5,n8,z6,simprocAttr,he,hii,c3,ld5',hine,q1];refine⟨(i+1,false),by simp only[];omega,by simp only[];rw[A8 i (by omega)],by simp only[];omega,by trivial,s12,fun _=>?_,fun h=>by cases h⟩;simp only[];rw[htq,hty,hmf rfl,e]
   ·have e:=dr2 he;simp only[i5,n8,z6,simprocAttr,he,hii,c3,ld5',hine,q1];refine⟨(i+1,true),by simp only[];omega,by simp only[];rw[A8 i (by omega)],by simp only[];omega,by trivial,s12,(fun h=>by cases h),fun _ h=>e ?_⟩;have h1:=ds7 (fun l:Rws=>l[i]?) h;simp only[hqi,hyi2]at h1;exact ds8 h1
 have hfx:=hfin3 hc;have hIns:Y8 p=F8 (N9 p OUTS DEFS) K3 (List.replicate p.procs.length []):=by
  unfold Y8;rw[hOUT,hDEF];exact aO7 K3 1000 _ (by omega) hfx.1
 rw[←hIns]at s3a hfx;rw[hfx.2]at s3a;have hfinal:y5 p=⟨b9 p,J2 p,DEFS,M5 p (Y8 p),Y8 p,OUTS⟩:=by
  unfold y5;rw[hOUT,hDEF]
 simp only[i5,simprocAttr,a33];refine o6 results45 ?_;simp only[p6,simprocAttr];exact⟨fun h=>(by cases h),fun _=>⟨_,by trivial,by rw[hfinal];exact hbk3 _ _ _ _ s3a⟩,hx1.trans (hx12d.trans s3a.ext)⟩
section
variable {h:Hp} {w w':World}
theorem B0.upR{α:Type}[I8 α]{T:TypeId}{u:Value}{l:List α}(ho:B0 (i4 w) w' T u l):R (aJ5 h w w') u l:=
 (ho.down (h:=fun _=>none) (fun _ _ h=>by cases h)).ro (fun _ _ h=>by cases h) fun b hb=>bH4 (D0 (ho.free hb))
end
theorem bJ5{p:Pg}(hm:J6 p=true):∃k,J1 p=F8 (F9 p) k (List.replicate p.procs.length [])∧F9 p (J1 p)=J1 p:=by
 have hC:=aM3 hm;have hp:=(M7 hm).2;have key:∀m,(∃k,k≤m∧F9 p (F8 (F9 p) k (List.replicate p.procs.length []))=F8 (F9 p) k (List.replicate p.procs.length []))∨m≤aw1 (F8 (F9 p) m (List.replicate p.procs.length [])):=fun m=>by
  induction m with
  | zero=>exact .inr (dr8 _)
  | succ m ih=>
   rcases ih with⟨k,hk,e⟩|ih
   ·exact .inl ⟨k,by omega,e⟩
   ·by_cases e:F9 p (F8 (F9 p) m (List.replicate p.procs.length []))=F8 (F9 p) m (List.replicate p.procs.length [])
    ·exact .inl ⟨m,by omega,e⟩
    ·have:=hC.more m e;exact .inr (by omega)
 rcases key 500 with⟨k,hk,e⟩|h
 ·have e1:J1 p=F8 (F9 p) k (List.replicate p.procs.length []):=aO7 k 1000 _ (by omega) e;exact⟨k,e1,by rw[e1];exact e⟩
 ·have:=hC.bound 500;omega
theorem cb2{p:Pg}(hr:E8 p)(hw:D1 p≤1000000):∃k,Y8 p=F8 (N9 p (J1 p) (H8 p (J1 p))) k (List.replicate p.procs.length [])∧N9 p (J1 p) (H8 p (J1 p)) (Y8 p)=Y8 p:=by
 have hC:=aV1 hr.may (J1 p) (H8 p (J1 p)) fun i hi=>bS9 hr hw i hi;have hp:=(M7 hr.may).2;generalize hG:N9 p (J1 p) (H8 p (J1 p))=G at hC;have key:∀m,(∃k,k≤m∧G (F8 G k (List.replicate p.procs.length []))=F8 G k (List.replicate p.procs.length []))∨m≤aw1 (F8 G m (List.replicate p.procs.length [])):=fun m=>by
  induction m with
  | zero=>exact .inr (dr8 _)
  | succ m ih=>
   rcases ih with⟨k,hk,e⟩|ih
   ·exact .inl ⟨k,by omega,e⟩
   ·by_cases e:G (F8 G m (List.replicate p.procs.length []))=F8 G m (List.replicate p.procs.length [])
    ·exact .inl ⟨m,by omega,e⟩
    ·have:=hC.more m e;exact .inr (by omega)
 rcases key 500 with⟨k,hk,e⟩|h
 ·have e1:Y8 p=F8 G k (List.replicate p.procs.length []):=by
   unfold Y8;rw[hG];exact aO7 k 1000 _ (by omega) e
  exact⟨k,e1,by rw[e1];exact e⟩
 ·have:=hC.bound 500;omega
theorem av1{p:Pg}(hm:J6 p=true):L0 p.procs.length 25 (J1 p):=by
 obtain⟨k,e,_⟩:=bJ5 hm;rw[e];exact(aM3 hm).iter_ok k
theorem aH3{p:Pg}(hr:E8 p)(hw:D1 p≤1000000):L0 p.procs.length 25 (Y8 p):=by
 obtain⟨k,e,_⟩:=cb2 hr hw;rw[e];exact(aV1 hr.may (J1 p) (H8 p (J1 p)) fun i hi=>bS9 hr hw i hi).iter_ok k
theorem br6{p:Pg}(hr:E8 p)(hw:D1 p≤1000000):L0 (b9 p).l.length 100 (y5 p).defs:=aR6 fun it hit=>aG6 hr.may (av1 hr.may) (hr.fits it hit)
theorem br7{p:Pg}(hr:E8 p)(hw:D1 p≤1000000):L0 (b9 p).l.length 2000000 (y5 p).uses:=aR6 fun it hit=>aX9 (aH3 hr hw) (Z5 p hw it hit)
theorem T9{p:Pg}{i:Nat}(hi:i<p.procs.length):(y5 p).way (i:Int)=E2 (b9 p) i:=by
 unfold Bk.way;rw[dt5];exact bA0 (W6 hi)
theorem Z8{p:Pg}{i:Nat}(hi:i<p.procs.length):(y5 p).s.fn (i:Int)=p.procs[i]:=by
 have e:(y5 p).s=b9 p:=rfl;rw[e];unfold Sh.fn;rw[J0,dt5,List.getD,dq7 hi];rfl
theorem aE3{α β:Type}(g:α→β)(l:List α){k:Nat}(hk:k<l.length):(l.take (k+1)).map g=(l.take k).map g++[g l[k]]:=by
 rw[dr6 hk,du1];rfl
theorem av4{p:Pg}{i x y:Nat}{wy:Wy}(hwy:ao2 p i x y wy){k:Nat}(h0:k≠0)(hk:(k:Int)<wy.n-1):∃q:Nat,wy.place (k:Int)-1=(q:Int)∧q<(b9 p).l.length∧wy.place (k:Int)=(q:Int)+1∧(x:Int)<(q:Int)+1∧(q:Int)+1≤(y:Int):=by
 have hn:=hwy.n;have h1:=hwy.part.ok.len;have e:wy.place (k:Int)=(x:Int)+1+k-1:=by
  rw[hwy.toWyOk.place,if_neg (by omega),if_neg (by omega)]
 exact⟨x+k-1,by omega,by omega,by omega,by omega,by omega⟩
theorem cf6(h:Hp)(a:Addr)(p:Pg)(i k:Nat)(w:World)(ha:At h a (y5 p))(hh:B5 h (i4 w))(hr:E8 p)(hw:D1 p≤1000000)(hi:i<p.procs.length)(hk:(k:Int)<(E2 (b9 p) i).n):
  p7 prog 135 #[.pointer (some a),.int .i64 i,.int .i64 k] w fun u w'=>(R (aJ5 h w w') u ((y5 p).gives i k)∧o7 w w'):=by
 refine p8 [.pointer (some a),.int .i64 i,.int .i64 k] func135 rfl ?_;obtain⟨x,pt⟩:=O8 hr.may hw i hi;have hwy:=V0 pt;generalize x+A5 p.procs[i].body=y at pt hwy;have h200:=G9 hr.may;have hF:(y5 p).gives (i:Int) (k:Int)=if(k:Int)=0 then C9 (F5 (Y8 p) (i:Int)++p.procs[i].params.map (·.name))else if(k:Int)=(E2 (b9 p) i).n-1∨atB (E2 (b9 p) i).live (k:Int)=false then[]else F5 (H8 p (J1 p)) ((E2 (b9 p) i).place (k:Int)-1):=by
  unfold Bk.gives;rw[T9 hi,Z8 hi];rfl
 obtain⟨sh,vw,vd,_,vi,_,has,hvw,hvd,_,hvi,_,ldb,sdb⟩:=ha.book rfl;obtain⟨_,_,_,_,_,_,hpg,_,_⟩:=has.sh;rw[J0]at hpg;obtain⟨vg,vp,hvg,hvp,ldp,sdp⟩:=hpg.pg;obtain⟨aw,hcw,haw⟩:=ay1 (hv:=hvw) (k:=i) (p:=⟨E2 (b9 p) i⟩) (by show((J2 p).map fun w=>(⟨w⟩:Ptr Wy))[i]?=_;rw[du5,W6 hi];rfl);simp only at haw;have hinw:=hvw.inS (k:=i) (by show i<((J2 p).map fun w=>(⟨w⟩:Ptr Wy)).length;unfold J2;simpa using hi);have lb:=ldb w hh;have hlw:=G1 (P:=prog) (t:=126) hcw hh az2;have hhw:∀w',o7 w w'→B5 h (i4 w'):=fun w' hx=>p9 hh (b7 hx);have hn:=hwy.n;have hlen:=pt.ok.len;rcases Nat.eq_zero_or_pos k with hk0|hk0
 ·subst hk0;rw[if_pos (by trivial)]at hF;obtain⟨hrow,hrise,hfew⟩:=(aH3 hr hw).row hi;generalize F5 (Y8 p) (i:Int)=row at hrow hrise hfew hF;obtain⟨ui,hui,hci⟩:=R.row hvi (show(y5 p).ins[i]?=some row from hrow);have hini:=hvi.inS (k:=i) (show i<(Y8 p).length from(dr4.1 hrow).1);have hli:=G1 (P:=prog) (t:=22) hci hh N0;simp only[i5,n8,z6,simprocAttr,lb,hinw,hlw,hini,hli];refine z7 (ao7 ui row w (A3.mono hh hui) (by omega)) ?_;rintro u2 w2 ⟨ho2,hx2⟩;have lb2:=ldb w2 (hhw w2 hx2);have lp2:=ldp w2 (hhw w2 hx2);have hatp:=hvp.at_ (i:=i) (x:=p.procs[i]) (dq7 hi);have hinp:=hvp.inS (k:=i) hi;have hz5:A3.sz Pr=5:=rfl;rw[hz5]at hatp;obtain⟨vpa,_,_,_,hvpa,_,_,_,ldr,_⟩:=hatp.pr;have lr2:=ldr w2 (hhw w2 hx2);have hpl:=O4 hr.may hi;generalize p.procs[i].params=pas at hvpa hpl hF;have hSp:=hvpa.isS;have hnp:=hvpa.vlen;simp only[i5,n8,z6,simprocAttr,lb2,lp2,hinp,lr2,hSp,hnp];refine n9 [40,41] (σ:=Nat×Value) (fun s f w'=>f 42 = .int .i64 s.1∧f 8=s.2∧s.1≤pas.length∧B0 (i4 w) w' 9 s.2 (row++(pas.take s.1).map (·.name))∧o7 w w') (fun s=>pas.length-s.1) (0,u2) ?_ ?_
  ·simp only[p6,simprocAttr];exact⟨by trivial,by trivial,dr8 _,by simpa using ho2,hx2⟩
  rintro⟨j,u⟩ f w3 hk ⟨h42,h8,hjl,ho,hx3⟩;simp only at h42 h8 hjl ho;simp only[dq9,p6,simprocAttr]at hk;obtain⟨e40,e41,_⟩:=hk;simp only[i5,n8,simprocAttr,h42,e41];refine m8 (fun hc=>?_) (fun hc=>?_)
  ·have hlt:j<pas.length:=by simpa using hc
   have hin:=hvpa.inS hlt;obtain⟨sv,hsv,hld⟩:=E4 (P:=prog) (t:=68) hvpa (hhw w3 hx3) (dq7 hlt) bc8 bd1 aS7 aj3;rw[aj3]at hld;have htk:=aE3 (fun q:Pa=>q.name) pas hlt;generalize pas[j]=pa at hsv htk;obtain⟨d,wz,w4,hal,hst,hx4,hat⟩:=az7 (hsv.mono (hhw w3 hx3)) (d7 _);obtain⟨ld4,_⟩:=hat.pa;have l4:=ld4 w4 (d7 _);obtain⟨p1,u5,w5,p2,p3,p4,p5⟩:=av5 (e:=22) (ho.ext hx4) pa.name (by rw[dr1,dr9,ds3];omega) (b7 (hx3.trans hx4));simp only[i5,n8,z6,simprocAttr,h42,h8,e40,hin,hld,hal,hst,l4,p1,p2];refine⟨(j+1,u5),by simp only[];omega,by simp only[];rw[A8 j (by omega)],by trivial,by simp only[];omega,?_,(ho.ext hx4).ext2 (hx3.trans hx4) p4⟩;simp only[];rw[htk,←dt4];exact p3
  ·have hge:j=pas.length:=by simp at hc;omega
   subst hge;rw[ds2]at ho;simp only[i5,simprocAttr,h8];refine z7 (ag5 ho (by rw[dr1,dr9];omega)) ?_;rintro u6 w6 ⟨ho6,hm6,_⟩;simp only[i5,simprocAttr];refine o6 results135 ?_;simp only[p6,simprocAttr];have e:(y5 p).gives (i:Int) 0=C9 (row++pas.map (·.name)):=hF;exact⟨by rw[e];exact ho6.upR,ho.ext2 hx3 hm6⟩
 have hk0':decide ((k:Int)=0)=false:=by simp;omega
 rw[if_neg (by omega)]at hF;have hplace:=fun h0 hk1=>av4 hwy (k:=k) h0 hk1;have hlive:=hwy.live;obtain⟨_,_,vl,_,_,hvl,ldw,sdw⟩:=haw.wy;have lw:=ldw w hh;have hwn:IntKind.i64.wrap ((E2 (b9 p) i).n-1)=(E2 (b9 p) i).n-1:=K6 _ (by omega);generalize hWY:E2 (b9 p) i=wy at hwy hn hF hplace hlive hvl lw hwn hk haw sdw;rcases dq8 (decide ((k:Int)=wy.n-1))with hq|hq
 ·rw[if_pos (.inl (dr0 hq))]at hF;simp only[i5,n8,z6,simprocAttr,lb,hinw,hlw,hk0',lw,hwn,hq];refine o6 results135 ?_;simp only[p6,simprocAttr];exact⟨by rw[hF];exact aB4 _,t8.refl _⟩
 have hkl:k<wy.live.length:=by omega
 have hinl:=hvl.inS hkl;have hldl:=ldB hvl hh hkl;have hat:wy.live[k]=atB wy.live (k:Int):=by
  unfold atB;rw[dt5,List.getD,dq7 hkl];rfl
 rw[hat]at hldl;have hne:=dr2 hq;rcases dq8 (atB wy.live (k:Int))with hl|hl;rotate_left
 ·rw[if_pos (.inr hl)]at hF;rw[hl]at hldl;simp only[i5,n8,z6,simprocAttr,lb,hinw,hlw,hk0',lw,hwn,hq,hinl,hldl];refine o6 results135 ?_;simp only[p6,simprocAttr];exact⟨by rw[hF];exact aB4 _,t8.refl _⟩
 rw[if_neg (by rw[hl];simp[hne])]at hF;rw[hl]at hldl;obtain⟨q,hqe,hqL,hpe,_⟩:=hplace (by omega) (by omega);rw[hqe]at hF;obtain⟨hdrow,hdrise,hdfew⟩:=(br6 hr hw).row hqL;have hdrow':(H8 p (J1 p))[q]?=some (F5 (H8 p (J1 p)) (q:Int)):=hdrow;generalize F5 (H8 p (J1 p)) (q:Int)=dr at hdrow' hF;obtain⟨ud,hud,hcd⟩:=R.row hvd (show(y5 p).defs[q]?=some dr from hdrow');have hind:=hvd.inS (k:=q) (show q<(H8 p (J1 p)).length from(dr4.1 hdrow').1);have hxd:=o7.drew w;have t1:=sdb (fun w'=>o7 w.drew w') w.drew (t8.refl _) fun w' hx=>hhw w' (hxd.trans hx);simp only[i5,n8,z6,simprocAttr,lb,hinw,hlw,hk0',lw,hwn,hq,hinl,hldl];refine C0 (fun w'=>o7 w.drew w') 8 (A9 [0,1,2,3,4,5,6,7]) ?_;simp only[D2,A9,i5,n8,simprocAttr,t1];refine B2 (ab5 aw wy p i x y (k:Int) w.drew (haw.mono (hhw _ hxd)) hwy.toWyOk (by omega)) (fun w3 hx3=>⟨hx3,?_⟩);have hwq:IntKind.i64.wrap (wy.place (k:Int)-1)=(q:Int):=by rw[hqe];exact K6 _ (by omega)
 have hx03:=hxd.trans hx3;have hlD:=G1 (P:=prog) (t:=22) hcd (hhw w3 hx03) N0;simp only[D2,i5,n8,z6,simprocAttr,hwq,hind,hlD];refine o6 results135 ?_;simp only[p6,simprocAttr];exact⟨by rw[hF];exact A3.mono (aU8 hh) hud,hx03⟩
theorem cg2(h:Hp)(a:Addr)(p:Pg)(i k:Nat)(w:World)(ha:At h a (y5 p))(hh:B5 h (i4 w))(hr:E8 p)(hw:D1 p≤1000000)(hi:i<p.procs.length)(hk:(k:Int)<(E2 (b9 p) i).n):
  p7 prog 85 #[.pointer (some a),.int .i64 i,.int .i64 k] w fun u w'=>(R (aJ5 h w w') u ((y5 p).takes i k)∧o7 w w'):=by
 refine p8 [.pointer (some a),.int .i64 i,.int .i64 k] func85 rfl ?_;obtain⟨x,pt⟩:=O8 hr.may hw i hi;have hwy:=V0 pt;generalize x+A5 p.procs[i].body=y at pt hwy;have h200:=G9 hr.may;have hF:(y5 p).takes (i:Int) (k:Int)=if(k:Int)=(E2 (b9 p) i).n-1 then C9 (F5 (J1 p) (i:Int)++[I3])else if(k:Int)=0∨atB (E2 (b9 p) i).live (k:Int)=false then[]else F5 (M5 p (Y8 p)) ((E2 (b9 p) i).place (k:Int)-1):=by
  unfold Bk.takes;rw[T9 hi];rfl
 obtain⟨sh,vw,_,vu,_,vo,has,hvw,_,hvu,_,hvo,ldb,sdb⟩:=ha.book rfl;obtain⟨aw,hcw,haw⟩:=ay1 (hv:=hvw) (k:=i) (p:=⟨E2 (b9 p) i⟩) (by show((J2 p).map fun w=>(⟨w⟩:Ptr Wy))[i]?=_;rw[du5,W6 hi];rfl);simp only at haw;have hinw:=hvw.inS (k:=i) (by show i<((J2 p).map fun w=>(⟨w⟩:Ptr Wy)).length;unfold J2;simpa using hi);have lb:=ldb w hh;have hlw:=G1 (P:=prog) (t:=126) hcw hh az2;have hhw:∀w',o7 w w'→B5 h (i4 w'):=fun w' hx=>p9 hh (b7 hx);have hn:=hwy.n;have hlen:=pt.ok.len;have hle':=pt.ok.le;have hplace:=fun h0 hk1=>av4 hwy (k:=k) h0 hk1;have hlive:=hwy.live;obtain⟨_,_,vl,_,_,hvl,ldw,sdw⟩:=haw.wy;have lw:=ldw w hh;have hwn:IntKind.i64.wrap ((E2 (b9 p) i).n-1)=(E2 (b9 p) i).n-1:=K6 _ (by omega);generalize hWY:E2 (b9 p) i=wy at hwy hn hF hplace hlive hvl lw hwn hk haw sdw;rcases dq8 (decide ((k:Int)=wy.n-1))with hq|hq
 ·rw[if_pos (dr0 hq)]at hF;obtain⟨hrow,hrise,hfew⟩:=(av1 hr.may).row hi;generalize F5 (J1 p) (i:Int)=row at hrow hrise hfew hF;obtain⟨ui,hui,hci⟩:=R.row hvo (show(y5 p).outs[i]?=some row from hrow);have hini:=hvo.inS (k:=i) (show i<(J1 p).length from(dr4.1 hrow).1);have hli:=G1 (P:=prog) (t:=22) hci hh N0;simp only[i5,n8,z6,simprocAttr,lb,hinw,hlw,lw,hwn,hq,hini,hli];refine z7 (ao7 ui row w (A3.mono hh hui) (by omega)) ?_;rintro u2 w2 ⟨ho2,hx2⟩;obtain⟨p1,u5,w5,p2,p3,p4,p5⟩:=av5 (e:=22) ho2 I3 (by omega) (b7 hx2);have p1':(Instr.buildSlice 22 1 #[(0,.string ⟨#[36,114,101,116]⟩)]).run prog w2=_:=p1;simp only[i5,simprocAttr,p1',p2];refine z7 (ag5 p3 (by rw[dr1,du0];omega)) ?_;rintro u6 w6 ⟨ho6,hm6,_⟩;simp only[i5,simprocAttr];refine o6 results85 ?_;simp only[p6,simprocAttr];exact⟨by rw[hF];exact ho6.upR,p3.ext2 (ho2.ext2 hx2 p4) hm6⟩
 have hne:=dr2 hq;rw[if_neg hne]at hF;rcases dq8 (decide ((k:Int)=0))with h0|h0
 ·rw[if_pos (.inl (dr0 h0))]at hF;simp only[i5,n8,z6,simprocAttr,lb,hinw,hlw,lw,hwn,hq,h0];refine o6 results85 ?_;simp only[p6,simprocAttr];exact⟨by rw[hF];exact aB4 _,t8.refl _⟩
 have h0n:=dr2 h0;have hkl:k<wy.live.length:=by omega
 have hinl:=hvl.inS hkl;have hldl:=ldB hvl hh hkl;have hat:wy.live[k]=atB wy.live (k:Int):=by
  unfold atB;rw[dt5,List.getD,dq7 hkl];rfl
 rw[hat]at hldl;rcases dq8 (atB wy.live (k:Int))with hl|hl;rotate_left
 ·rw[if_pos (.inr hl)]at hF;rw[hl]at hldl;simp only[i5,n8,z6,simprocAttr,lb,hinw,hlw,h0,lw,hwn,hq,hinl,hldl];refine o6 results85 ?_;simp only[p6,simprocAttr];exact⟨by rw[hF];exact aB4 _,t8.refl _⟩
 rw[if_neg (fun hor=>hor.elim h0n fun e=>by rw[hl]at e;cases e)]at hF;rw[hl]at hldl;obtain⟨q,hqe,hqL,hpe,_⟩:=hplace (by omega) (by omega);rw[hqe]at hF;obtain⟨hdrow,_,_⟩:=(br7 hr hw).row hqL;have hdrow':(M5 p (Y8 p))[q]?=some (F5 (M5 p (Y8 p)) (q:Int)):=hdrow;generalize F5 (M5 p (Y8 p)) (q:Int)=dr at hdrow' hF;obtain⟨ud,hud,hcd⟩:=R.row hvu (show(y5 p).uses[q]?=some dr from hdrow');have hind:=hvu.inS (k:=q) (show q<(M5 p (Y8 p)).length from(dr4.1 hdrow').1);have hxd:=o7.drew w;have t1:=sdb (fun w'=>o7 w.drew w') w.drew (t8.refl _) fun w' hx=>hhw w' (hxd.trans hx);simp only[i5,n8,z6,simprocAttr,lb,hinw,hlw,h0,lw,hwn,hq,hinl,hldl];refine C0 (fun w'=>o7 w.drew w') 8 (A9 [0,1,2,3,4,5,6,7]) ?_;simp only[D2,A9,i5,n8,simprocAttr,t1];refine B2 (ab5 aw wy p i x y (k:Int) w.drew (haw.mono (hhw _ hxd)) hwy.toWyOk (by omega)) (fun w3 hx3=>⟨hx3,?_⟩);have hwq:IntKind.i64.wrap (wy.place (k:Int)-1)=(q:Int):=by rw[hqe];exact K6 _ (by omega)
 have hx03:=hxd.trans hx3;have hlD:=G1 (P:=prog) (t:=22) hcd (hhw w3 hx03) N0;simp only[D2,i5,n8,z6,simprocAttr,hwq,hind,hlD];refine o6 results85 ?_;simp only[p6,simprocAttr];exact⟨by rw[hF];exact A3.mono (aU8 hh) hud,hx03⟩
theorem cZ5:ah7 prog 60=true:=by kernel_rfl
theorem cj7(x y:Fw)(w:World):p7 prog 90 #[.agg (A6.cells x).toArray,.agg (A6.cells y).toArray] w fun u w'=>(u = .int .i64 (fwC x y)∧Gr w w'):=by
 refine p8 [.agg (A6.cells x).toArray,.agg (A6.cells y).toArray] func90 rfl ?_;obtain⟨a,w1,hb1,hg1,ha⟩:=bE6 (P:=prog) (T:=97) (SV.ofN (i4 w) x) (d7 _);obtain⟨b,w2,hb2,hg2,hb⟩:=bE6 (P:=prog) (T:=97) (SV.ofN (i4 w1) y) (d7 _);obtain⟨_,sa⟩:=(ha.mono (b7 hg2.ext)).fw;obtain⟨_,sb⟩:=hb.fw;have s1:=sa (fun w'=>Gr w2.drew w') w2.drew (Gr.refl _) fun w' h=>b7 ((Gr.drew w2).trans h).ext;have s2:=sb (fun w'=>Gr w2.drew w') w2.drew (Gr.refl _) fun w' h=>b7 ((Gr.drew w2).trans h).ext;simp only[i5,n8,simprocAttr,hb1,hb2];refine C0 (fun w'=>Gr w2.drew w') 18 (A9 [0,1,3,4,7,8,10,11,14,15,16,17,2,5,6,9,12,13]) ?_ (hS:=Gr.refl _);simp only[D2,A9,i5,n8,simprocAttr,s1,s2];refine C7 (ai2 _ _) ⟨Gr.refl _,?_⟩;simp only[D2,i5,simprocAttr];refine C7 (ai2 _ _) ⟨Gr.refl _,?_⟩;simp only[D2,i5,simprocAttr];refine C7 (S7 _ _ _) ⟨Gr.refl _,?_⟩;simp only[D2,i5,simprocAttr];refine C7 (ai2 _ _) ⟨Gr.refl _,?_⟩;simp only[D2,i5,simprocAttr];refine C7 (ai2 _ _) ⟨Gr.refl _,?_⟩;simp only[D2,i5,simprocAttr];refine C7 (S7 _ _ _) ⟨Gr.refl _,?_⟩;simp only[D2,i5,simprocAttr];refine C7 (aw3 _ _ _) ?_;generalize hl:[J4 (E3 x.src) (E3 y.src),J4 (E3 x.dst) (E3 y.dst),af3 x.var y.var]=l;have hF:fwC x y=orF l:=by rw[←hl];rfl
 have h3:l.length=3:=by rw[←hl];rfl
 obtain⟨vt,w3,hlit,hot,hg3⟩:=cI8 (P:=prog) (w:=w2.drew) (h:=i4 w2.drew) (α:=Int) (xs:=[.int .i64 (J4 (E3 x.src) (E3 y.src)),.int .i64 (J4 (E3 x.dst) (E3 y.dst)),.int .i64 (af3 x.var y.var)]) (ys:=l) (parts:=#[(0,.int .i64 (J4 (E3 x.src) (E3 y.src))),(1,.int .i64 (J4 (E3 x.dst) (E3 y.dst))),(2,.int .i64 (af3 x.var y.var))]) (n:=3) ae1 rfl (by rw[←hl];exact L8.2 rfl) (by simp[Value.cells]) rfl h3 (by simp) (by simp) (d7 _);simp only[i5,simprocAttr,hlit];refine C7 (by2 vt l w3 (hot.rw_ (b7 hg3.ext)) (by omega)) ?_;simp only[i5,simprocAttr];refine o6 results90 ?_;simp only[p6,simprocAttr];exact⟨by rw[hF],hg1.trans (hg2.trans ((Gr.drew w2).trans hg3))⟩
theorem aT3(x y:Vx)(w:World):p7 prog 60 #[.agg (A6.cells x).toArray,.agg (A6.cells y).toArray] w fun u w'=>(u = .int .i64 (vxC x y)∧Gr w w'):=by
 refine p8 [.agg (A6.cells x).toArray,.agg (A6.cells y).toArray] func60 rfl ?_;obtain⟨a,w1,hb1,hg1,ha⟩:=bE6 (P:=prog) (T:=36) (SV.ofN (i4 w) x) (d7 _);obtain⟨b,w2,hb2,hg2,hb⟩:=bE6 (P:=prog) (T:=36) (SV.ofN (i4 w1) y) (d7 _);obtain⟨_,sa⟩:=(ha.mono (b7 hg2.ext)).vx;obtain⟨_,sb⟩:=hb.vx;have s1:=sa (fun w'=>Gr w2.drew w') w2.drew (Gr.refl _) fun w' h=>b7 ((Gr.drew w2).trans h).ext;have s2:=sb (fun w'=>Gr w2.drew w') w2.drew (Gr.refl _) fun w' h=>b7 ((Gr.drew w2).trans h).ext;simp only[i5,n8,simprocAttr,hb1,hb2];refine C0 (fun w'=>Gr w2.drew w') 19 (A9 [0,1,2,3,5,6,7,8,10,11,12,13,15,16,17,18,4,9,14]) ?_ (hS:=Gr.refl _);simp only[D2,A9,i5,n8,simprocAttr,s1,s2];refine C7 (aw3 _ _ _) ⟨Gr.refl _,?_⟩;simp only[D2,i5,simprocAttr];refine C7 (S7 _ _ _) ⟨Gr.refl _,?_⟩;simp only[D2,i5,simprocAttr];refine C7 (S7 _ _ _) ⟨Gr.refl _,?_⟩;simp only[D2,i5,simprocAttr];refine C7 (aw3 _ _ _) ?_;generalize hl:[af3 x.proc y.proc,J4 x.kind y.kind,J4 x.id y.id,af3 x.slot y.slot]=l;have hF:vxC x y=orF l:=by rw[←hl];rfl
 have h3:l.length=4:=by rw[←hl];rfl
 obtain⟨vt,w3,hlit,hot,hg3⟩:=cI8 (P:=prog) (w:=w2.drew) (h:=i4 w2.drew) (α:=Int) (xs:=[.int .i64 (af3 x.proc y.proc),.int .i64 (J4 x.kind y.kind),.int .i64 (J4 x.id y.id),.int .i64 (af3 x.slot y.slot)]) (ys:=l) (parts:=#[(0,.int .i64 (af3 x.proc y.proc)),(1,.int .i64 (J4 x.kind y.kind)),(2,.int .i64 (J4 x.id y.id)),(3,.int .i64 (af3 x.slot y.slot))]) (n:=4) ae1 rfl (by rw[←hl];exact L8.2 rfl) (by simp[Value.cells]) rfl h3 (by simp) (by simp) (d7 _);simp only[i5,simprocAttr,hlit];refine C7 (by2 vt l w3 (hot.rw_ (b7 hg3.ext)) (by omega)) ?_;simp only[i5,simprocAttr];refine o6 results60 ?_;simp only[p6,simprocAttr];exact⟨by rw[hF],hg1.trans (hg2.trans ((Gr.drew w2).trans hg3))⟩
theorem cN3{P:Program}{k:Nat}{args:List Value}{w:World}{K:Fr→World→Prop}{f:Fr}{d:Option Nat}{v:Value}(hb:ah7 P k=true)
  (h:Calls P k args.toArray w fun e w'=>∃u,e = .returned u∧(u=v∧Gr w w')) (hk:∀w',Gr w w'→K (C4 f d v) w'):at5 P k args w K f d:=
 z7 (hb:=hb) h fun u w' ⟨e,hg⟩=>by subst e;exact hk w' hg
theorem ci5(x y:Eg)(w:World):p7 prog 112 #[.agg (A6.cells x).toArray,.agg (A6.cells y).toArray] w fun u w'=>(u = .int .i64 (egC x y)∧Gr w w'):=by
 refine p8 [.agg (A6.cells x).toArray,.agg (A6.cells y).toArray] func112 rfl ?_;obtain⟨a,w1,hb1,hg1,ha⟩:=bE6 (P:=prog) (T:=60) (SV.ofN (i4 w) x) (d7 _);obtain⟨b,w2,hb2,hg2,hb⟩:=bE6 (P:=prog) (T:=60) (SV.ofN (i4 w1) y) (d7 _);obtain⟨hxs,hxd,_,sa⟩:=(ha.mono (b7 hg2.ext)).eg;obtain⟨hys,hyd,_,sb⟩:=hb.eg;obtain⟨sv1,hv1,_,e1⟩:=hxs.vx_v;obtain⟨sv2,hv2,_,e2⟩:=hxd.vx_v;obtain⟨sv3,hv3,_,e3⟩:=hys.vx_v;obtain⟨sv4,hv4,_,e4⟩:=hyd.vx_v;have hN:∀{v:Value} {z:Vx},SV (i4 w2) v z→v = .agg (A6.cells z).toArray:=fun{v z} ⟨cs,e,h1⟩=>by rw[e,(A6.iff_ _ _ _).1 h1]
 obtain rfl:=hN hv1;obtain rfl:=hN hv2;obtain rfl:=hN hv3;obtain rfl:=hN hv4;have hh:∀w',Gr w2.drew w'→B5 (i4 w2) (i4 w'):=fun w' h=>b7 ((Gr.drew w2).trans h).ext;have s1:=sa (fun w'=>Gr w2.drew w') w2.drew (Gr.refl _) hh;have s2:=sb (fun w'=>Gr w2.drew w') w2.drew (Gr.refl _) hh;have s3:=e1 (fun w'=>Gr w2.drew w') w2.drew (Gr.refl _) hh;have s4:=e2 (fun w'=>Gr w2.drew w') w2.drew (Gr.refl _) hh;have s5:=e3 (fun w'=>Gr w2.drew w') w2.drew (Gr.refl _) hh;have s6:=e4 (fun w'=>Gr w2.drew w') w2.drew (Gr.refl _) hh;simp only[i5,n8,simprocAttr,hb1,hb2];refine C0 (fun w'=>Gr w2.drew w') 14 (A9 [0,1,2,3,5,6,7,8,10,11,12,13,4,9]) ?_ (hS:=Gr.refl _);simp only[D2,A9,i5,n8,simprocAttr,s1,s2,s3,s4,s5,s6];refine cN3 cZ5 (aT3 x.src y.src _) (fun w3 hg3=>⟨hg3,?_⟩);simp only[D2,i5,simprocAttr];refine cN3 cZ5 (aT3 x.dst y.dst _) (fun w4 hg4=>⟨hg3.trans hg4,?_⟩);simp only[D2,i5,simprocAttr];refine C7 (S7 _ _ _) ?_;generalize hl:[vxC x.src y.src,vxC x.dst y.dst,J4 x.kind y.kind]=l;have hF:egC x y=orF l:=by rw[←hl];rfl
 have h3:l.length=3:=by rw[←hl];rfl
 obtain⟨vt,w5,hlit,hot,hg5⟩:=cI8 (P:=prog) (w:=w4) (h:=i4 w4) (α:=Int) (xs:=[.int .i64 (vxC x.src y.src),.int .i64 (vxC x.dst y.dst),.int .i64 (J4 x.kind y.kind)]) (ys:=l) (parts:=#[(0,.int .i64 (vxC x.src y.src)),(1,.int .i64 (vxC x.dst y.dst)),(2,.int .i64 (J4 x.kind y.kind))]) (n:=3) ae1 rfl (by rw[←hl];exact L8.2 rfl) (by simp[Value.cells]) rfl h3 (by simp) (by simp) (d7 _);simp only[i5,simprocAttr,hlit];refine C7 (by2 vt l w5 (hot.rw_ (b7 hg5.ext)) (by omega)) ?_;simp only[i5,simprocAttr];refine o6 results112 ?_;simp only[p6,simprocAttr];exact⟨by rw[hF],hg1.trans (hg2.trans ((Gr.drew w2).trans ((hg3.trans hg4).trans hg5)))⟩
theorem or3(a b c:Int):orF [a,b,c]=if a=0 then(if b=0 then(if c=0 then 0 else c)else b)else a:=by simp only[orF]
theorem or4(a b c d:Int):orF [a,b,c,d]=if a=0 then(if b=0 then(if c=0 then(if d=0 then 0 else d)else c)else b)else a:=by simp only[orF]
theorem bE8:Cm fwC:=by
 have h:=(aC6.key (fun x:Fw=>E3 x.src)).lex ((aC6.key (fun x:Fw=>E3 x.dst)).lex ((bP5.key (fun x:Fw=>x.var)).lex Cm.zero));have e:fwC=fun x y:Fw=>if J4 (E3 x.src) (E3 y.src)=0 then(if J4 (E3 x.dst) (E3 y.dst)=0 then(if af3 x.var y.var=0 then 0 else af3 x.var y.var)else J4 (E3 x.dst) (E3 y.dst))else J4 (E3 x.src) (E3 y.src):=by
  funext x y
  exact or3 _ _ _
 rw[e];exact h
theorem bZ4:Cm vxC:=by
 have h:=(bP5.key (fun x:Vx=>x.proc)).lex ((aC6.key (fun x:Vx=>x.kind)).lex ((aC6.key (fun x:Vx=>x.id)).lex ((bP5.key (fun x:Vx=>x.slot)).lex Cm.zero)));have e:vxC=fun x y:Vx=>if af3 x.proc y.proc=0 then(if J4 x.kind y.kind=0 then(if J4 x.id y.id=0 then(if af3 x.slot y.slot=0 then 0 else af3 x.slot y.slot)else J4 x.id y.id)else J4 x.kind y.kind)else af3 x.proc y.proc:=by
  funext x y
  exact or4 _ _ _ _
 rw[e];exact h
theorem cN4:Cm egC:=by
 have h:=(bZ4.key (fun x:Eg=>x.src)).lex ((bZ4.key (fun x:Eg=>x.dst)).lex ((aC6.key (fun x:Eg=>x.kind)).lex Cm.zero));have e:egC=fun x y:Eg=>if vxC x.src y.src=0 then(if vxC x.dst y.dst=0 then(if J4 x.kind y.kind=0 then 0 else J4 x.kind y.kind)else vxC x.dst y.dst)else vxC x.src y.src:=by
  funext x y
  exact or3 _ _ _
 rw[e];exact h
theorem bG7{a b:Fw}(h1:plc a.src∧plc a.dst)(h2:plc b.src∧plc b.dst)(h:fwC a b=0):a=b:=by
 unfold fwC at h;rw[or3]at h;by_cases q1:J4 (E3 a.src) (E3 b.src)=0
 ·rw[if_pos q1]at h;by_cases q2:J4 (E3 a.dst) (E3 b.dst)=0
  ·rw[if_pos q2]at h;by_cases q3:af3 a.var b.var=0
   ·have e1:=aR2 h1.1 h2.1 (ab7 q1);have e2:=aR2 h1.2 h2.2 (ab7 q2);have e3:=aT9 q3;cases a;cases b;simp_all
   ·rw[if_neg q3]at h;exact absurd h q3
  ·rw[if_neg q2]at h;exact absurd h q2
 ·rw[if_neg q1]at h;exact absurd h q1
theorem bo1{a b:Vx}(h:vxC a b=0):a=b:=by
 unfold vxC at h;rw[or4]at h;by_cases q1:af3 a.proc b.proc=0
 ·rw[if_pos q1]at h;by_cases q2:J4 a.kind b.kind=0
  ·rw[if_pos q2]at h;by_cases q3:J4 a.id b.id=0
   ·rw[if_pos q3]at h;by_cases q4:af3 a.slot b.slot=0
    ·have e1:=aT9 q1;have e2:=ab7 q2;have e3:=ab7 q3;have e4:=aT9 q4;cases a;cases b;simp_all
    ·rw[if_neg q4]at h;exact absurd h q4
   ·rw[if_neg q3]at h;exact absurd h q3
  ·rw[if_neg q2]at h;exact absurd h q2
 ·rw[if_neg q1]at h;exact absurd h q1
theorem ct8{a b:Eg}(h:egC a b=0):a=b:=by
 unfold egC at h;rw[or3]at h;by_cases q1:vxC a.src b.src=0
 ·rw[if_pos q1]at h;by_cases q2:vxC a.dst b.dst=0
  ·rw[if_pos q2]at h;by_cases q3:J4 a.kind b.kind=0
   ·have e1:=bo1 q1;have e2:=bo1 q2;have e3:=ab7 q3;cases a;cases b;simp_all
   ·rw[if_neg q3]at h;exact absurd h q3
  ·rw[if_neg q2]at h;exact absurd h q2
 ·rw[if_neg q1]at h;exact absurd h q1
theorem Cm.eq0{α:Type}{c:α→α→Int}(h:Cm c){a b:α}(h1:decide (c a b≤0)=true)(h2:decide (c b a≤0)=true):c a b=0:=by
 have h3:=dr0 h1;have h4:=dr0 h2;have h5:=h.anti a b;omega
theorem dd0:E7 prog 95 97 3 32=true:=by kernel_rfl
theorem bL5:E7 prog 30 36 4 48=true:=by kernel_rfl
theorem dc8:E7 prog 32 60 9 104=true:=by kernel_rfl
theorem cl5:(Tryz.lySortF_ren.f 6)=89:=by kernel_rfl
theorem bu4:(Tryz.lySortF_ren.t 24)=97:=by kernel_rfl
theorem bV0{h:Hp}{w:World}{v:Value}{xs:List Fw}(ho:B0 h w 97 v xs)(hl:xs.length≤1000000000)(hp:∀a∈xs,∀b∈xs,decide (fwC a b≤0)=true→decide (fwC b a≤0)=true→a=b):
  Calls prog 89 #[v,.func (.func 90) #[] #[]] w fun e w'=>∃u,e = .returned u∧(B0 h w' 97 v (V9 bp9 xs)∧t8 (A4 v) w w'):=by
 rw[←cl5];have aE:∀w,(isAgg (Tryz.lySortF_ren.t 24)).run prog w = .ok true w:=fun w=>by
  rw[bu4,X2 _ cQ1,cP8]
 have zE:∀w,(Go.sizeOf (Tryz.lySortF_ren.t 24)).run prog w = .ok (A3.sz Fw) w:=fun w=>by
  rw[bu4,N6 cB7,bN2];rfl
 exact aH7 (P:=prog) (T:=97) Tryz.lySortF aE zE fwC bE8 90 (enters_of func90 (by kernel_rfl) rfl) (fun x y w=>(cj7 x y w).mono fun e w' ⟨u,h1,h2,h3⟩=>⟨by rw[h1,h2],h3⟩) ho hl hp
theorem cl7:(Tryz.lySortV_ren.f 6)=59:=by kernel_rfl
theorem bu6:(Tryz.lySortV_ren.t 24)=36:=by kernel_rfl
theorem bV1{h:Hp}{w:World}{v:Value}{xs:List Vx}(ho:B0 h w 36 v xs)(hl:xs.length≤1000000000)(hp:∀a∈xs,∀b∈xs,decide (vxC a b≤0)=true→decide (vxC b a≤0)=true→a=b):
  Calls prog 59 #[v,.func (.func 60) #[] #[]] w fun e w'=>∃u,e = .returned u∧(B0 h w' 36 v (V9 cE0 xs)∧t8 (A4 v) w w'):=by
 rw[←cl7];have aE:∀w,(isAgg (Tryz.lySortV_ren.t 24)).run prog w = .ok true w:=fun w=>by
  rw[bu6,X2 _ aF7,aF4]
 have zE:∀w,(Go.sizeOf (Tryz.lySortV_ren.t 24)).run prog w = .ok (A3.sz Vx) w:=fun w=>by
  rw[bu6,N6 aB2,W5];rfl
 exact aH7 (P:=prog) (T:=36) Tryz.lySortV aE zE vxC bZ4 60 (enters_of func60 (by kernel_rfl) rfl) (fun x y w=>(aT3 x y w).mono fun e w' ⟨u,h1,h2,h3⟩=>⟨by rw[h1,h2],h3⟩) ho hl hp
theorem cl4:(Tryz.lySortE_ren.f 6)=111:=by kernel_rfl
theorem bu3:(Tryz.lySortE_ren.t 24)=60:=by kernel_rfl
theorem bL6{h:Hp}{w:World}{v:Value}{xs:List Eg}(ho:B0 h w 60 v xs)(hl:xs.length≤1000000000)(hp:∀a∈xs,∀b∈xs,decide (egC a b≤0)=true→decide (egC b a≤0)=true→a=b):
  Calls prog 111 #[v,.func (.func 112) #[] #[]] w fun e w'=>∃u,e = .returned u∧(B0 h w' 60 v (V9 cH1 xs)∧t8 (A4 v) w w'):=by
 rw[←cl4];have aE:∀w,(isAgg (Tryz.lySortE_ren.t 24)).run prog w = .ok true w:=fun w=>by
  rw[bu3,X2 _ ce2,ce1]
 have zE:∀w,(Go.sizeOf (Tryz.lySortE_ren.t 24)).run prog w = .ok (A3.sz Eg) w:=fun w=>by
  rw[bu3,N6 bw9,aS9];rfl
 exact aH7 (P:=prog) (T:=60) Tryz.lySortE aE zE egC cN4 112 (enters_of func112 (by kernel_rfl) rfl) (fun x y w=>(ci5 x y w).mono fun e w' ⟨u,h1,h2,h3⟩=>⟨by rw[h1,h2],h3⟩) ho hl hp
theorem D6.rowlen{n:Nat}{l:List (List Int)}(h:D6 n l)(a:Int):(C1 l a).length≤n:=by
 have:=ay8 (n:=n) (m:=0) (h.row a).1 (fun y hy=>C3.1 ((h.row a).2 y hy)) (by omega);omega
inductive at6 (nx gen kill:List (List Int)):Int→Nat→Prop
 | gen {a b:Int} {f:Nat}:b∈C1 nx a→(f:Int)∈C1 gen a→at6 nx gen kill b f
 | step {a b:Int} {f:Nat}:b∈C1 nx a→at6 nx gen kill a f→(f:Int)∉C1 kill a→at6 nx gen kill b f
def wAt(ins:List (List W))(b:Int):List W:=ins.getD b.toNat []
def ai7(ins:List (List W))(b:Int)(f:Nat):Bool:=O1 (wAt ins b) f
theorem cM2{ins:List (List W)}{n:Nat}(hl:ins.length=n){a b:Int}(ha:H1 n a=true)(hb:H1 n b=true)(r:List W):wAt (ins.set a.toNat r) b=if b=a then r else wAt ins b:=by
 have ha':=C3.1 ha;have hb':=C3.1 hb;unfold wAt;simp only[List.getD];by_cases h:b=a
 ·subst h;rw[if_pos rfl,dx3 (by omega)];rfl
 ·rw[if_neg h,dz2 (by omega)]
theorem ai0{ins:List (List W)}{n:Nat}(hl:ins.length=n){a:Int}(ha:H1 n a=true):ins[a.toNat]?=some (wAt ins a):=by
 have ha':=C3.1 ha;unfold wAt;have:a.toNat<ins.length:=by omega
 simp[List.getD,this]
def bp4(most:Nat)(r:List W):Nat:=(List.range most).countP (O1 r)
def aE7(most:Nat)(ins:List (List W)):Nat:=(ins.map (bp4 most)).sum
theorem cG7(most:Nat)(r:List W):bp4 most r≤most:=by
 have:=List.countP_le_length (p:=O1 r) (l:=List.range most);rw[dw7]at this;exact this
theorem aQ7(most:Nat):∀ins:List (List W),aE7 most ins≤ins.length*most
 | []=>by simp[aE7]
 | r::ins=>by
  have h1:=aQ7 most ins;have h2:=cG7 most r;simp only[aE7,dv6,dB6,dt2]at *;rw[dC1];omega
theorem aQ8(most:Nat):∀(ins:List (List W)) (i:Nat) (r r':List W),ins[i]?=some r→aE7 most (ins.set i r')+bp4 most r=aE7 most ins+bp4 most r'
 | [],i,r,r',h=>by simp at h
 | x::ins,0,r,r',h=>by
  simp at h;subst h;simp only[aE7,List.set_cons_zero,dv6,dB6];omega
 | x::ins,i+1,r,r',h=>by
  have:=aQ8 most ins i r r' (by simpa using h);simp only[aE7,List.set_cons_succ,dv6,dB6]at *;omega
theorem bg8{p q:Nat→Bool}{m:Nat}:∀{l:List Nat},(∀x,p x=true→q x=true)→m∈l→q m=true→p m=false→l.countP p<l.countP q
 | [],_,h,_,_=>by cases h
 | x::l,hqp,h,hp,hq=>by
  have B5:l.countP p≤l.countP q:=List.countP_mono_left fun x _=>hqp x;rw[List.countP_cons,List.countP_cons];by_cases hx:m=x
  ·subst hx;simp[hp,hq];omega
  ·have hm:m∈l:=by
    rcases dt1.1 h with h|h
    ·exact absurd h hx
    ·exact h
   have:=bg8 hqp hm hp hq;by_cases h1:p x=true
   ·simp[h1,hqp x h1];omega
   ·simp only[h1,dx4,dy5];split<;>omega
theorem bg5{most:Nat}{b c:List W}(hl:b.length=c.length)(hc:∀f,O1 c f=true→f<most)(hm:ae9 b c=true):bp4 most b<bp4 most (orB b c):=by
 obtain⟨f,h1,h2⟩:=(bu8 hl).1 hm;exact bg8 (m:=f) (fun x hx=>by rw[ax1 hl,hx];rfl) (dv0.2 (hc f h1)) (by rw[ax1 hl,h1];simp) h2
theorem cJ7{b c:List W}(hl:b.length=c.length)(hm:ae9 b c=false)(f:Nat):O1 (orB b c) f=O1 b f:=by
 rw[ax1 hl];cases hb:O1 b f
 ·cases hc:O1 c f
  ·rfl
  ·have:=(bu8 hl).2 ⟨f,hc,hb⟩;rw[hm]at this;cases this
 ·rfl
def bD8(gen kill:List (List Int))(ins:List (List W))(a:Int)(f:Nat):Prop:=(f:Int)∈C1 gen a∨(ai7 ins a f=true∧(f:Int)∉C1 kill a)
section
variable (nx gen kill:List (List Int)) (most:Nat)
structure SB (ins:List (List W)) (todo:List Int) (waits:List Bool):Prop where
 ilen:ins.length=nx.length
 rlen:∀r∈ins,r.length=most / 64+1
 wlen:waits.length=nx.length
 ok:∀a∈todo,H1 nx.length a=true
 wt:∀a,B4 waits a=true↔a∈todo
 nodup:todo.Nodup
 sound:∀b f,H1 nx.length b=true→ai7 ins b f=true→at6 nx gen kill b f
 low:∀b f,H1 nx.length b=true→ai7 ins b f=true→f<most
def co8(ins:List (List W))(a:Int):Prop:=∀b∈C1 nx a,∀f,bD8 gen kill ins a f→ai7 ins b f=true
structure SI (ins:List (List W)) (todo:List Int) (waits:List Bool) (T:Nat):Prop extends SB nx gen kill most ins todo waits where
 closed:∀a,H1 nx.length a=true→B4 waits a=false→co8 nx gen kill ins a
 few:T+todo.length≤nx.length+aE7 most ins
 many:nx.length≤T+todo.length
structure SJ (a:Int) (goes:List W) (k:Nat) (ins:List (List W)) (todo:List Int) (waits:List Bool) (T:Nat):Prop extends SB nx gen kill most ins todo waits where
 closed:∀c,H1 nx.length c=true→c≠a→B4 waits c=false→co8 nx gen kill ins c
 mine:B4 waits a=false→∀f,O1 goes f=true↔bD8 gen kill ins a f
 done:∀b∈(C1 nx a).take k,∀f,O1 goes f=true→ai7 ins b f=true
 few:T+todo.length≤nx.length+aE7 most ins
 many:nx.length≤T+todo.length
end
section
variable {nx gen kill:List (List Int)} {most:Nat} {ins:List (List W)} {todo:List Int} {waits:List Bool} {T:Nat} {a:Int} {goes:List W} {k:Nat}
theorem SI.start(hins:ins=List.replicate nx.length (List.replicate (most / 64+1) 0#64))(htodo:∀a,a∈todo↔H1 nx.length a=true)(hnd:todo.Nodup)(hlen:todo.length=nx.length)(hw:waits=List.replicate nx.length true):SI nx gen kill most ins todo waits 0:=by
 have hno:∀b f,H1 nx.length b=true→ai7 ins b f=false:=by
  intro b f hb;have:=C3.1 hb;subst hins;unfold ai7 wAt;simp only[List.getD,dB1];rw[if_pos (by omega)];exact bH2
 have hbw:∀b,B4 waits b=true↔H1 nx.length b=true:=by
  intro b;subst hw;constructor
  ·intro h;have:=ao4 h;simpa using this
  ·intro h;have h1:=(M2 (l:=List.replicate nx.length true) (b:=b) (by simpa using h)).2;rw[h1];have:=C3.1 h;simp only[List.getD,dB1];rw[if_pos (by omega)];rfl
 refine⟨⟨by subst hins;simp,fun r hr=>?_,by subst hw;simp,fun a ha=>(htodo a).1 ha,fun a=>by rw[hbw,htodo],hnd,(fun b f hb h=>(by rw[hno b f hb]at h;cases h)),(fun b f hb h=>(by rw[hno b f hb]at h;cases h))⟩,fun a ha h=>?_,by omega,by omega⟩
 ·subst hins;rw[dx2 hr];simp
 ·have:=(hbw a).2 ha;rw[h]at this;cases this
theorem SI.pop{rest:List Int}(h:SI nx gen kill most ins (a::rest) waits T)(hg:∀f,O1 goes f=true↔bD8 gen kill ins a f):SJ nx gen kill most a goes 0 ins rest (waits.set a.toNat false) (T+1):=by
 have ha:H1 nx.length a=true:=h.ok a (by simp);have hs:∀b,B4 (waits.set a.toNat false) b=if b=a then false else B4 waits b:=fun b=>M6 (by rw[h.wlen];exact ha);have hnd:=dD6.1 h.nodup;refine⟨⟨h.ilen,h.rlen,by simp[h.wlen],fun b hb=>h.ok b (by simp[hb]),fun b=>?_,hnd.2,h.sound,h.low⟩,fun c hc hca hw=>?_,fun _=>hg,fun b hb=>by simp at hb,?_,?_⟩
 ·rw[hs];by_cases hb:b=a
  ·subst hb;simp[hnd.1]
  ·rw[if_neg hb,h.wt];simp[hb]
 ·rw[hs,if_neg hca]at hw;exact h.closed c hc hw
 ·have:=h.few;simp only[dt2]at this;omega
 ·have:=h.many;simp only[dt2]at this;omega
theorem SJ.core{b:Int}(hgood:D6 nx.length nx)(h:SJ nx gen kill most a goes k ins todo waits T)(hgl:goes.length=most / 64+1)(hgs:∀f,O1 goes f=true→f<most∧∀b∈C1 nx a,at6 nx gen kill b f)(hb:(C1 nx a)[k]?=some b)(hbk:H1 nx.length b=true)
  {todo':List Int} {waits':List Bool} (hwl:waits'.length=nx.length) (hok:∀a∈todo',H1 nx.length a=true) (hwt:∀c,B4 waits' c=true↔c∈todo') (hnd:todo'.Nodup) (hsub:∀c,B4 waits' c=false→B4 waits c=false)
  (hmore:ae9 (wAt ins b) goes=true→B4 waits' b=true) (hfew:T+todo'.length≤nx.length+aE7 most (ins.set b.toNat (orB (wAt ins b) goes))) (hmany:nx.length≤T+todo'.length) :
  SJ nx gen kill most a goes (k+1) (ins.set b.toNat (orB (wAt ins b) goes)) todo' waits' T:=by
 have hrb:(wAt ins b).length=goes.length:=by rw[hgl];exact h.rlen _ (ds9 (ai0 h.ilen hbk))
 have hbm:b∈C1 nx a:=ds9 hb;have hset:∀c f,H1 nx.length c=true→ai7 (ins.set b.toNat (orB (wAt ins b) goes)) c f=if c=b then(ai7 ins b f||O1 goes f)else ai7 ins c f:=by
  intro c f hc;unfold ai7;rw[cM2 h.ilen hbk hc];by_cases e:c=b
  ·rw[if_pos e,if_pos e,ax1 hrb]
  ·rw[if_neg e,if_neg e]
 have mono:∀c f,H1 nx.length c=true→ai7 ins c f=true→ai7 (ins.set b.toNat (orB (wAt ins b) goes)) c f=true:=by
  intro c f hc hh;rw[hset c f hc];split
  ·rename_i e;subst e;rw[hh];rfl
  ·exact hh
 have same:∀c,H1 nx.length c=true→B4 waits' c=false→∀f,ai7 (ins.set b.toNat (orB (wAt ins b) goes)) c f=ai7 ins c f:=by
  intro c hc hw f;rw[hset c f hc];split
  ·rename_i e;subst e;have hm:ae9 (wAt ins c) goes=false:=by
    cases e:ae9 (wAt ins c) goes
    ·rfl
    ·rw[hmore e]at hw;cases hw
   have:=cJ7 hrb hm f;rw[ax1 hrb]at this;exact this
  ·rfl
 have hrow:∀c d,d∈C1 nx c→H1 nx.length c=true:=by
  intro c d hd;cases e:H1 nx.length c
  ·rw[aR3 e]at hd;cases hd
  ·rfl
 have goesSame:∀c,H1 nx.length c=true→B4 waits' c=false→∀f,bD8 gen kill (ins.set b.toNat (orB (wAt ins b) goes)) c f↔bD8 gen kill ins c f:=by
  intro c hc hw f;unfold bD8;rw[same c hc hw f]
 refine⟨⟨by simp[h.ilen],fun r hr=>?_,hwl,hok,hwt,hnd,fun c f hc hh=>?_,fun c f hc hh=>?_⟩,fun c hc hca hw d hd f hg=>?_,fun hw f=>?_,fun d hd f hf=>?_,hfew,hmany⟩
 ·rcases dz1 hr with h1|h1
  ·exact h.rlen r h1
  ·rw[h1,bB6 hrb,hrb,hgl]
 ·rw[hset c f hc]at hh;split at hh
  ·rename_i e;subst e;rcases Bool.or_eq_true_iff.1 hh with h1|h1
   ·exact h.sound _ f hc h1
   ·exact(hgs f h1).2 _ hbm
  ·exact h.sound c f hc hh
 ·rw[hset c f hc]at hh;split at hh
  ·rename_i e;subst e;rcases Bool.or_eq_true_iff.1 hh with h1|h1
   ·exact h.low _ f hc h1
   ·exact(hgs f h1).1
  ·exact h.low c f hc hh
 ·have hg':=(goesSame c hc hw f).1 hg;have hd1:=h.closed c hc hca (hsub c hw) d hd f hg';have hdk:H1 nx.length d=true:=(hgood.row c).2 d hd;exact mono d f hdk hd1
 ·have ha:H1 nx.length a=true:=hrow a b hbm;rw[goesSame a ha hw f];exact h.mine (hsub a hw) f
 ·have htk:(C1 nx a).take (k+1)=(C1 nx a).take k++[b]:=by
   rw[dD4,hb];rfl
  rw[htk,ds4,dt8]at hd;rcases hd with hd|hd
  ·exact mono d f ((hgood.row a).2 d (dz5 hd)) (h.done d hd f hf)
  ·subst hd;rw[hset d f hbk,if_pos rfl,hf,dD1]
theorem SJ.old{b:Int}(hgood:D6 nx.length nx)(h:SJ nx gen kill most a goes k ins todo waits T)(hgl:goes.length=most / 64+1)(hgs:∀f,O1 goes f=true→f<most∧∀b∈C1 nx a,at6 nx gen kill b f)(hb:(C1 nx a)[k]?=some b)(hbk:H1 nx.length b=true)
  (hc:ae9 (wAt ins b) goes=false∨B4 waits b=true):SJ nx gen kill most a goes (k+1) (ins.set b.toNat (orB (wAt ins b) goes)) todo waits T:=by
 have hrb:(wAt ins b).length=goes.length:=by rw[hgl];exact h.rlen _ (ds9 (ai0 h.ilen hbk))
 have hp:=aQ8 most ins b.toNat (wAt ins b) (orB (wAt ins b) goes) (ai0 h.ilen hbk);have B5:bp4 most (wAt ins b)≤bp4 most (orB (wAt ins b) goes):=List.countP_mono_left fun x _ hx=>by rw[ax1 hrb,hx];rfl
 refine h.core hgood hgl hgs hb hbk h.wlen h.ok h.wt h.nodup (fun _ hh=>hh) (fun hm=>?_) (by have:=h.few;omega) h.many;rcases hc with hc|hc
 ·rw[hm]at hc;cases hc
 ·exact hc
theorem SJ.new{b:Int}(hgood:D6 nx.length nx)(h:SJ nx gen kill most a goes k ins todo waits T)(hgl:goes.length=most / 64+1)(hgs:∀f,O1 goes f=true→f<most∧∀b∈C1 nx a,at6 nx gen kill b f)(hb:(C1 nx a)[k]?=some b)(hbk:H1 nx.length b=true)
  (hm:ae9 (wAt ins b) goes=true) (hwb:B4 waits b=false):SJ nx gen kill most a goes (k+1) (ins.set b.toNat (orB (wAt ins b) goes)) (todo++[b]) (waits.set b.toNat true) T:=by
 have hrb:(wAt ins b).length=goes.length:=by rw[hgl];exact h.rlen _ (ds9 (ai0 h.ilen hbk))
 have hp:=aQ8 most ins b.toNat (wAt ins b) (orB (wAt ins b) goes) (ai0 h.ilen hbk);have hlt:=bg5 (most:=most) hrb (fun f hf=>(hgs f hf).1) hm;have hs:∀c,B4 (waits.set b.toNat true) c=if c=b then true else B4 waits c:=fun c=>M6 (by rw[h.wlen];exact hbk);have hbt:b∉todo:=fun hh=>by rw[(h.wt b).2 hh]at hwb;cases hwb
 refine h.core hgood hgl hgs hb hbk (by simp[h.wlen]) (fun c hc=>?_) (fun c=>?_) ?_ (fun c hc=>?_) (fun _=>by rw[hs,if_pos rfl]) ?_ ?_
 ·rcases ds4.1 hc with hc|hc
  ·exact h.ok c hc
  ·simp at hc;subst hc;exact hbk
 ·rw[hs];by_cases e:c=b
  ·subst e;simp
  ·rw[if_neg e,h.wt];simp[e]
 ·refine dw0.2 ⟨h.nodup,by simp,?_⟩;intro x hx y hy e;simp at hy;subst hy;subst e;exact hbt hx
 ·rw[hs]at hc;split at hc
  ·cases hc
  ·exact hc
 ·have:=h.few;simp only[dr1,dt2,dx8];omega
 ·have:=h.many;simp only[dr1,dt2,dx8];omega
theorem SJ.pot{b:Int}(h:SJ nx gen kill most a goes k ins todo waits T)(hgl:goes.length=most / 64+1)(hgs:∀f,O1 goes f=true→f<most∧∀b∈C1 nx a,at6 nx gen kill b f)(hbk:H1 nx.length b=true):
  aE7 most ins≤aE7 most (ins.set b.toNat (orB (wAt ins b) goes))∧(ae9 (wAt ins b) goes=true→aE7 most ins+1≤aE7 most (ins.set b.toNat (orB (wAt ins b) goes))):=by
 have hrb:(wAt ins b).length=goes.length:=by rw[hgl];exact h.rlen _ (ds9 (ai0 h.ilen hbk))
 have hp:=aQ8 most ins b.toNat (wAt ins b) (orB (wAt ins b) goes) (ai0 h.ilen hbk);have B5:bp4 most (wAt ins b)≤bp4 most (orB (wAt ins b) goes):=List.countP_mono_left fun x _ hx=>by rw[ax1 hrb,hx];rfl
 refine⟨by omega,fun hm=>?_⟩;have hlt:=bg5 (most:=most) hrb (fun f hf=>(hgs f hf).1) hm;omega
theorem SJ.fin(h:SJ nx gen kill most a goes k ins todo waits T)(hk:k=(C1 nx a).length):SI nx gen kill most ins todo waits T:=by
 refine⟨h.toSB,fun c hc hw=>?_,h.few,h.many⟩;by_cases e:c=a
 ·subst e;intro d hd f hg;refine h.done d ?_ f ((h.mine hw f).2 hg);rw[hk,ds2];exact hd
 ·exact h.closed c hc e hw
theorem SI.fin(hgood:D6 nx.length nx)(h:SI nx gen kill most ins [] waits T):(∀b f,H1 nx.length b=true→(ai7 ins b f=true↔at6 nx gen kill b f))∧nx.length≤T∧T≤nx.length+nx.length*most:=by
 have hw:∀a,B4 waits a=false:=fun a=>by
  cases e:B4 waits a
  ·rfl
  ·have:=(h.wt a).1 e;cases this
 have hrow:∀c d,d∈C1 nx c→H1 nx.length c=true:=by
  intro c d hd;cases e:H1 nx.length c
  ·rw[aR3 e]at hd;cases hd
  ·rfl
 refine⟨fun b f hb=>⟨h.sound b f hb,fun hc=>?_⟩,by simpa using h.many,?_⟩
 ·clear hb
  induction hc with
  | gen h1 h2=>exact h.closed _ (hrow _ _ h1) (hw _) _ h1 _ (.inl h2)
  | step h1 _ h3 ih=>exact h.closed _ (hrow _ _ h1) (hw _) _ h1 _ (.inr ⟨ih,h3⟩)
 ·have h1:=h.few;have h2:=aQ7 most ins;rw[h.ilen]at h2;simp only[dx8]at h1;omega
def cN9(n most:Nat)(ins:List (List W))(todo:List Int):Nat:=(n*most-aE7 most ins)+todo.length
end
theorem bb9{nx:List (List Int)}{a b:Int}(h:b∈C1 nx a):0≤a∧a<nx.length:=by
 unfold C1 at h;split at h
 ·next h1=>exact h1
 ·simp at h
theorem ch9{nx gl kl:List (List Int)}{at_:List Nat}(hg:∀(a:Int) (f:Nat),(f:Int)∈C1 gl a↔∃A:Nat,at_[f]?=some A∧a=(A:Int))(hk:∀(a:Int) (f:Nat),f<at_.length→((f:Int)∈C1 kl a↔∃A∈at_,a=(A:Int)))
  {f A:Nat} (hf:at_[f]?=some A) (c:Int):at6 nx gl kl c f↔∃d∈C1 nx (A:Int),Way (as6 nx fun q=>at_.contains q) d c:=by
 have hfl:f<at_.length:=(dr4.1 hf).1;constructor
 ·intro h;generalize hF:f=F at h
  induction h with
  | @gen a b f' hb hgen=>
   subst hF;obtain⟨A',h1,rfl⟩:=(hg _ _).1 hgen;rw[hf]at h1;obtain rfl:=ds8 h1;exact⟨b,hb,.refl⟩
  | @step a b f' hb hc hkill ih=>
   subst hF;obtain⟨d,hd,hw⟩:=ih rfl;refine⟨d,hd,.step hw ?_⟩;have h0:=bb9 hb;rw[an4,if_neg]
   ·exact hb
   ·intro hct;rw[dt6]at hct;exact hkill ((hk a f hfl).2 ⟨a.toNat,hct,by omega⟩)
 ·rintro⟨d,hd,hw⟩
  induction hw with
  | refl=>exact .gen hd ((hg _ _).2 ⟨A,hf,rfl⟩)
  | @step b c hw hc ih=>
   rw[an4]at hc;split at hc
   ·simp at hc
   ·next hs=>
    refine .step hc ih fun hkill=>?_;obtain⟨A',hA,rfl⟩:=(hk b f hfl).1 hkill;rw[dt5]at hs;exact hs (dt6.2 hA)
theorem bP6{nx:List (List Int)}(hok:OkR nx){at_:List Nat}{A c:Nat}:aU1 nx at_ A c=true↔∃d∈C1 nx (A:Int),Way (as6 nx fun q=>at_.contains q) d (c:Int):=by
 unfold aU1;rw[dE3];constructor
 ·rintro⟨d,hd,h⟩;exact⟨d,hd,(bB9 (av0 hok _) (by rw[X7];exact hok _ _ hd)).1 h⟩
 ·rintro⟨d,hd,h⟩;exact⟨d,hd,(bB9 (av0 hok _) (by rw[X7];exact hok _ _ hd)).2 h⟩
def ac6(at_:List Nat)(g:Nat→List Int)(n:Nat):Nat→List (List Int)
 | 0=>List.replicate n []
 | k+1=>(ac6 at_ g n k).set (at_.getD k 0) (g k)
theorem U5(at_:List Nat)(g:Nat→List Int)(n:Nat):∀k,(ac6 at_ g n k).length=n
 | 0=>by simp[ac6]
 | k+1=>by rw[ac6,dy4,U5 at_ g n k]
theorem av9{at_:List Nat}{g:Nat→List Int}{n:Nat}(hnd:at_.Nodup)(hlt:∀a∈at_,a<n):∀k,k≤at_.length→∀(a:Nat) (r:List Int),(ac6 at_ g n k)[a]?=some r→(∃f,f<k∧at_[f]?=some a∧r=g f)∨((∀f,f<k→at_[f]?≠some a)∧r=[])
 | 0,_,a,r,h=>by
  rw[ac6]at h;exact .inr ⟨fun f hf=>by omega,dx2 (ds9 h)⟩
 | k+1,hk,a,r,h=>by
  have hk':k<at_.length:=by omega
  have hAk:at_.getD k 0=at_[k]:=by rw[List.getD,dq7 hk'];rfl
  rw[ac6,hAk]at h;by_cases ha:at_[k]=a
  ·subst ha;rw[dx3 (by rw[U5];exact hlt _ (dr5 hk'))]at h;exact .inl ⟨k,by omega,dq7 hk',(ds8 h).symm⟩
  ·rw[dz2 ha]at h;rcases av9 hnd hlt k (by omega) a r h with⟨f,hf,h1,h2⟩|⟨h1,h2⟩
   ·exact .inl ⟨f,by omega,h1,h2⟩
   ·refine .inr ⟨fun f hf=>?_,h2⟩;rcases dv3 f k with h3|h3
    ·exact h1 f h3
    ·obtain rfl:f=k:=by omega
     rw[dq7 hk'];exact fun e=>ha (ds8 e)
theorem bw1{at_:List Nat}{g:Nat→List Int}{n:Nat}(hnd:at_.Nodup)(hlt:∀a∈at_,a<n)(a x:Int):x∈C1 (ac6 at_ g n at_.length) a↔∃(f A:Nat),at_[f]?=some A∧a=(A:Int)∧x∈g f:=by
 constructor
 ·intro h;obtain⟨h0,h1⟩:=bb9 h;unfold C1 at h;rw[if_pos ⟨h0,h1⟩]at h;have hget:(ac6 at_ g n at_.length)[a.toNat]?=some ((ac6 at_ g n at_.length).getD a.toNat []):=by
   rw[List.getD,dq7 (by omega)];rfl
  rcases av9 hnd hlt _ (ds5 _) _ _ hget with⟨f,hf,h2,h3⟩|⟨_,h3⟩
  ·rw[h3]at h;exact⟨f,a.toNat,h2,by omega,h⟩
  ·rw[h3]at h;simp at h
 ·rintro⟨f,A,hf,rfl,hx⟩;have hA:=hlt A (ds9 hf);have hfl:f<at_.length:=(dr4.1 hf).1;unfold C1;rw[U5,if_pos ⟨by omega,by omega⟩,dt5];have hget:(ac6 at_ g n at_.length)[A]?=some ((ac6 at_ g n at_.length).getD A []):=by
   rw[List.getD,dq7 (by rw[U5];exact hA)];rfl
  rcases av9 hnd hlt _ (ds5 _) _ _ hget with⟨f',hf',h2,h3⟩|⟨h2,_⟩
  ·have:f=f':=by
    obtain⟨h4,h5⟩:=dr4.1 hf;obtain⟨h6,h7⟩:=dr4.1 h2;have h8:=dz0.1 hnd;rcases Nat.lt_trichotomy f f' with h|h|h
    ·exact absurd (h5.trans h7.symm) (h8 f f' h4 h6 h)
    ·exact h
    ·exact absurd (h7.trans h5.symm) (h8 f' f h6 h4 h)
   subst this;rw[h3];exact hx
  ·exact absurd hf (h2 f hfl)
structure GM (h:Hp) (w0 w:World) (r:Nat) (kv:List (A7×Value)) (G:A7→List Int):Prop where
 map:aJ1 w r kv
 ge:w0.heap.size≤r
 ext:o7 w0 w
 row:∀n v,L5 kv n=some v→B0 h w 3 v (G n)∧G n≠[]
 no:∀n,L5 kv n=none→G n=[]
 apart:∀n m v u,n≠m→L5 kv n=some v→L5 kv m=some u→∀b,A4 v b→¬A4 u b
 off:∀n v,L5 kv n=some v→∀b,A4 v b→b≠r∧w0.heap.size≤b
def GM.N(r:Nat)(kv:List (A7×Value))(b:Nat):Prop:=b=r∨∃n v,L5 kv n=some v∧A4 v b
section
variable {h:Hp} {w0 w:World} {r:Nat} {kv:List (A7×Value)} {G:A7→List Int}
theorem GM.more(s:GM h w0 w r kv G){w':World}(hx:o7 w w'):GM h w0 w' r kv G:=
 ⟨s.map.mod hx id,s.ge,s.ext.trans hx,fun n v e=>⟨(s.row n v e).1.ext hx,(s.row n v e).2⟩,s.no,s.apart,s.off⟩
theorem GM.lt(s:GM h w0 w r kv G){b:Nat}(hb:GM.N r kv b):b<w.heap.size:=by
 rcases hb with rfl|⟨n,v,e,hb⟩
 ·exact s.map.lt
 ·exact(s.row n v e).1.lt hb
theorem GM.nge(s:GM h w0 w r kv G){b:Nat}(hb:GM.N r kv b):w0.heap.size≤b:=by
 rcases hb with rfl|⟨n,v,e,hb⟩
 ·exact s.ge
 ·exact(s.off n v e b hb).2
theorem GM.push(s:GM h w0 w r kv G)(hh:B5 h (i4 w))(n:A7)(a:Int)(hl:(G n).length≤100000000){P:Program}(hP:P=prog){e:TypeId}:
  (Instr.lookup 146 (.map (some r)) (o9 n) false).run prog w = .ok ((L5 kv n).getD (.slice none 0 0)) w ∧
  (Instr.buildSlice 112 1 #[(0,.int .i64 a)]).run prog w = .ok (.slice (some ⟨w.heap.size,0,none⟩) 1 1) (w.alloc (.cells #[.int .i64 a] 3)) ∧
  ∃v' w' w'',(Builtin.append_ #[112,112] e #[(L5 kv n).getD (.slice none 0 0),.slice (some ⟨w.heap.size,0,none⟩) 1 1]).run prog (w.alloc (.cells #[.int .i64 a] 3)) = .ok v' w' ∧
   (Instr.mapUpdate 146 (.map (some r)) (o9 n) v').run prog w' = .ok () w''∧GM h w0 w'' r (aF0 kv n v') (fun m=>if m=n then G n++[a]else G m)∧t8 (GM.N r kv) w w''∧(∀b,GM.N r (aF0 kv n v') b→GM.N r kv b∨w.heap.size≤b):=by
 have ht:prog.underlying 146=some (.map 9 112):=Tryz.underlying146;have hk:prog.underlying 9=some .string:=Tryz.underlying9;have hlk:=s.map.lookup (P:=prog) ht hk T7 n;have hov:B0 h w 3 ((L5 kv n).getD (.slice none 0 0)) (G n):=by
  cases he:L5 kv n with
  | none=>rw[s.no n he];exact B0.nil _ _ _
  | some v=>exact(s.row n v he).1
 have hvN:∀b,A4 ((L5 kv n).getD (.slice none 0 0)) b→∃v,L5 kv n=some v∧A4 v b:=fun b hb=>by
  cases he:L5 kv n with
  | none=>rw[he]at hb;exact absurd hb C6
  | some v=>rw[he]at hb;exact⟨v,rfl,hb⟩
 obtain⟨p1,v',w',p2,p3,p4,p5⟩:=Go.Proofs.YtcbnbgpphippoaaGreat.push (P:=prog) (t:=112) (e:=e) ae1 rfl hov (x:=.int .i64 a) (y:=a) rfl (by omega) (by omega) hh;have hm1:=s.map.mod p4 fun hb=>by
  obtain⟨v,e,hb⟩:=hvN r hb;exact(s.off n v e r hb).1 rfl
 obtain⟨w'',q1,q2,q3⟩:=hm1.update (P:=prog) ht hk n v';refine⟨hlk,p1,v',w',w'',p2,q1,?_,?_,?_⟩
 ·have hv':∀b,A4 v' b→b≠r∧w0.heap.size≤b:=fun b hb=>by
   rcases p5 b hb with h1|h1
   ·obtain⟨v,e,h1⟩:=hvN b h1;exact s.off n v e b h1
   ·have:=s.map.lt;have:=s.ext.size;exact⟨by omega,by omega⟩
  have hap:∀m u,m≠n→L5 kv m=some u→∀b,A4 u b→¬A4 v' b:=fun m u hne e b hb hb2=>by
   rcases p5 b hb2 with h1|h1
   ·obtain⟨v,e2,h1⟩:=hvN b h1;exact s.apart m n u v hne e e2 b hb h1
   ·have:=(s.row m u e).1.lt hb;omega
  refine⟨q2,s.ge,t8.ext_of (t8.ext_of s.ext p4 fun b hb=>?_) q3 fun b hb=>by subst hb;exact s.ge,fun m v e=>?_,fun m e=>?_,fun m k v u hne e1 e2 b hb hb2=>?_,fun m v e b hb=>?_⟩
  ·obtain⟨v,e,hb⟩:=hvN b hb;exact(s.off n v e b hb).2
  ·rw[an0]at e;split at e
   ·next hmn=>
    obtain rfl:=ds8 e;subst hmn;simp only[dx1];exact⟨p3.mod q3 fun b hb=>(hv' b hb).1,by simp⟩
   ·next hmn=>
    simp only[hmn,dy5];refine⟨((s.row m v e).1.mod p4 fun b hb hb2=>?_).mod q3 fun b hb=>(s.off m v e b hb).1,(s.row m v e).2⟩;obtain⟨v2,e2,hb2⟩:=hvN b hb2;exact s.apart m n v v2 hmn e e2 b hb hb2
  ·rw[an0]at e;split at e
   ·cases e
   ·next hmn=>simp only[hmn,dy5];exact s.no m e
  ·rw[an0]at e1 e2;split at e1
   ·next h1=>
    obtain rfl:=ds8 e1;rw[if_neg (fun h2=>hne (h1.trans h2.symm))]at e2;exact hap k u (fun h2=>hne (h1.trans h2.symm)) e2 b hb2 hb
   ·next h1=>
    split at e2
    ·obtain rfl:=ds8 e2;exact hap m v h1 e1 b hb hb2
    ·exact s.apart m k v u hne e1 e2 b hb hb2
  ·rw[an0]at e;split at e
   ·obtain rfl:=ds8 e;exact hv' b hb
   ·exact s.off m v e b hb
 ·exact t8.trans (p4.weaken fun b _ hb=>by
   obtain⟨v,e,hb⟩:=hvN b hb;exact .inr ⟨n,v,e,hb⟩) (q3.weaken fun b _ hb=>.inl hb)
 ·intro b hb;rcases hb with h1|⟨m,v,e,hb⟩
  ·exact .inl (.inl h1)
  ·rw[an0]at e;split at e
   ·obtain rfl:=ds8 e;rcases p5 b hb with h1|h1
    ·obtain⟨v,e,h1⟩:=hvN b h1;exact .inl (.inr ⟨n,v,e,h1⟩)
    ·exact .inr h1
   ·exact .inl (.inr ⟨m,v,e,hb⟩)
end
theorem aM0{p:Pg}{i:Nat}(hr:E8 p)(hw:D1 p≤1000000)(hi:i<p.procs.length){k:Nat}(hk:(k:Int)<(E2 (b9 p) i).n):((y5 p).gives (i:Int) (k:Int)).Pairwise (fun a b=>ltS a b=true)∧((y5 p).gives (i:Int) (k:Int)).length≤100:=by
 obtain⟨x,pt⟩:=O8 hr.may hw i hi;have hwy:=V0 pt;generalize x+A5 p.procs[i].body=y at pt hwy;unfold Bk.gives;rw[T9 hi,Z8 hi];split
 ·refine⟨Q5 _,dr7 (as5 _) ?_⟩;have h1:=aF2 (aH3 hr hw) (i:Int);have h2:=O4 hr.may hi;rw[dr1,dr9];have e:F5 (y5 p).ins (i:Int)=F5 (Y8 p) (i:Int):=rfl;rw[e];omega
 ·next h0=>
  split
  ·exact⟨List.Pairwise.nil,by simp⟩
  ·next h1=>
   have h1':¬(k:Int)=(E2 (b9 p) i).n-1:=fun h=>h1 (.inl h);obtain⟨q,hqe,hqL,_⟩:=av4 hwy (k:=k) (by omega) (by omega);rw[hqe];exact((br6 hr hw).row hqL).2
def cu8(p:Pg)(i:Nat)(n:A7):List Int:=((y5 p).givers (i:Int) n).map fun(a:Nat)=>(a:Int)
theorem cj8(a:Addr)(p:Pg)(i:Nat)(w:World)(ha:At (i4 w) a (y5 p))(hr:E8 p)(hw:D1 p≤1000000)(hi:i<p.procs.length):
  p7 prog 84 #[.pointer (some a),.int .i64 i] w fun u w'=>(∃r kv c,u = .tuple #[.map (some r),.int .i64 c]∧GM (i4 w) w w' r kv (cu8 p i)):=by
 refine p8 [.pointer (some a),.int .i64 i] func84 rfl ?_;obtain⟨x,pt⟩:=O8 hr.may hw i hi;have hwy:=V0 pt;generalize x+A5 p.procs[i].body=y at pt hwy;have h200:=G9 hr.may;have hn:=hwy.n;have hlen:=pt.ok.len;have hle':=pt.ok.le;have hgr:=fun k (hk:((k:Nat):Int)<(E2 (b9 p) i).n)=>aM0 hr hw hi hk;have hgiv:=fun(k:Nat) (wa:World) (hh:B5 (i4 w) (i4 wa)) (hk:(k:Int)<(E2 (b9 p) i).n)=>cf6 (i4 w) a p i k wa ha hh hr hw hi hk;have hGe:∀n,cu8 p i n=((List.range (E2 (b9 p) i).n.toNat).filter fun(a:Nat)=>((y5 p).gives (i:Int) (a:Int)).contains n).map fun(a:Nat)=>(a:Int):=fun n=>by
  unfold cu8 Bk.givers;rw[T9 hi]
 obtain⟨sh,vw,_,_,_,_,has,hvw,_,_,_,_,ldb,_⟩:=ha.book rfl;obtain⟨aw,hcw,haw⟩:=ay1 (hv:=hvw) (k:=i) (p:=⟨E2 (b9 p) i⟩) (by show((J2 p).map fun w=>(⟨w⟩:Ptr Wy))[i]?=_;rw[du5,W6 hi];rfl);simp only at haw;have hinw:=hvw.inS (k:=i) (by show i<((J2 p).map fun w=>(⟨w⟩:Ptr Wy)).length;unfold J2;simpa using hi);obtain⟨_,_,_,_,_,_,ldw,_⟩:=haw.wy;obtain⟨hmk,hm0,hxm⟩:=aJ1.new (P:=prog) w 146;generalize hw1:w.alloc (.map #[] 0)=w1 at hmk hm0 hxm;have hG0:GM (i4 w) w w1 w.heap.size [] (fun _=>[]):=⟨hm0,ds5 _,hxm,fun n v e=>by simp[L5]at e,fun _ _=>rfl,fun n m v u _ e=>by simp[L5]at e,fun n v e=>by simp[L5]at e⟩;generalize hGG:(fun k:Nat=>(y5 p).gives (i:Int) (k:Int))=GV at *;have hGV:∀k:Nat,(y5 p).gives (i:Int) (k:Int)=GV k:=fun k=>by rw[←hGG]
 simp only[hGV]at hgr hgiv hGe;generalize(E2 (b9 p) i).n=wn at hn hgr hgiv hGe ldw;obtain⟨M,rfl⟩:∃M:Nat,wn=(M:Int):=⟨wn.toNat,by omega⟩;rw[dt5]at hGe;have lb:=ldb w1 (b7 hxm);have hlw:=G1 (P:=prog) (t:=126) hcw (b7 hxm) az2;have lw:=ldw w1 (b7 hxm);simp only[i5,n8,z6,simprocAttr,bk6,hmk,lb,hinw,hlw,lw];have hGk:∀k,(fun n=>((List.range k).filter fun(a:Nat)=>(GV a).contains n).map (fun(a:Nat)=>(a:Int))++if((GV k).take (GV k).length).contains n then[(k:Int)]else[])=fun n=>((List.range (k+1)).filter fun(a:Nat)=>(GV a).contains n).map fun(a:Nat)=>(a:Int):=fun k=>by
  funext n
  rw[ds2,dB9,dy3,du1]
  congr 1
  rw[List.filter_cons,List.filter_nil];cases(GV k).contains n<;>rfl
 refine n9 [0,1,4,19] (σ:=Nat×List (A7×Value)) (fun s f w'=>f 20 = .int .i64 s.1∧s.1≤M∧(∃c:Int,f 5 = .int .i64 c)∧GM (i4 w) w w' w.heap.size s.2 (fun n=>((List.range s.1).filter fun(a:Nat)=>(GV a).contains n).map fun(a:Nat)=>(a:Int))) (fun s=>M-s.1) (0,[]) ?_ ?_
 ·simp only[p6,simprocAttr];exact⟨by trivial,dr8 _,⟨0,by trivial⟩,hG0⟩
 rintro⟨k,kv⟩ f w5 hk ⟨h20,hkl,⟨c,h5⟩,s5⟩;simp only at h20 hkl s5;simp only[dq9,p6,simprocAttr]at hk;obtain⟨e0,e1,e4,e19,_⟩:=hk;simp only[i5,n8,simprocAttr,h20,e19];refine m8 (fun hc=>?_) (fun hc=>?_);rotate_left
 ·have hge:k=M:=by simp at hc;omega
  subst hge;simp only[i5,simprocAttr,e4,h5];refine af0 results84 ?_;simp only[p6,simprocAttr];refine⟨w.heap.size,kv,c,by trivial,?_⟩;have:cu8 p i=fun n=>((List.range k).filter fun(a:Nat)=>(GV a).contains n).map fun(a:Nat)=>(a:Int):=by funext n;exact hGe n
  rw[this];exact s5
 have hlt:k<M:=by simpa using hc
 obtain⟨hrise,hfew⟩:=hgr k (by omega);have hGk':=hGk k;simp only[i5,simprocAttr,h20,e0,e1];refine z7 (hgiv k w5 (b7 s5.ext) (by omega)) ?_;rintro u w6 ⟨hu,hx6⟩;have s6:=s5.more hx6;have huN:R (B7 w6 (GM.N w.heap.size kv)) u (GV k):=A3.mono (ca7 (b7 s5.ext) hx6 fun b hb=>⟨s5.lt hb,be5 (s5.nge hb)⟩) hu;have hnd:=aq3 hrise;generalize GV k=names at huN hrise hfew hGk' hnd;have hSu:=huN.isS;have hnu:=huN.vlen;simp only[i5,n8,simprocAttr,hSu,hnu];refine n9 [0,1,4,6,19,20,26,27] (σ:=Nat×List (A7×Value)) (fun s f w'=>f 28 = .int .i64 s.1∧s.1≤names.length∧(∃c:Int,f 5 = .int .i64 c)∧GM (i4 w) w w' w.heap.size s.2 (fun n=>((List.range k).filter fun(a:Nat)=>(GV a).contains n).map (fun(a:Nat)=>(a:Int))++if(names.take s.1).contains n then[(k:Int)]else[])∧t8 (GM.N w.heap.size kv) w6 w'∧(∀b,GM.N w.heap.size s.2 b→GM.N w.heap.size kv b∨w6.heap.size≤b)) (fun s=>names.length-s.1) (0,kv) ?_ ?_
 ·simp only[p6,simprocAttr];refine⟨by trivial,dr8 _,⟨c,h5⟩,?_,t8.refl _,fun b hb=>.inl hb⟩;simp only[dC6,List.contains_nil,dx4,dy5,du2];exact s6
 rintro⟨q,kv7⟩ f7 w7 hk ⟨h28,hql,⟨c7,h57⟩,s7,hm7,hN7⟩;simp only at h28 hql s7 hN7;simp only[dq9,p6,simprocAttr]at hk;obtain⟨j0,j1,j4,j6,j19,j20,j26,j27,_⟩:=hk;rw[e0]at j0;rw[e1]at j1;rw[e4]at j4;rw[e19]at j19;rw[h20]at j20;simp only[i5,n8,simprocAttr,h28,j27];refine m8 (fun hc2=>?_) (fun hc2=>?_);rotate_left
 ·have hge:q=names.length:=by simp at hc2;omega
  subst hge;rw[hGk']at s7;simp only[i5,n8,simprocAttr,j20];exact⟨(k+1,kv7),by simp only[];omega,by simp only[];rw[A8 k (by omega)],by simp only[];omega,⟨c7,h57⟩,s7⟩
 have hltq:q<names.length:=by simpa using hc2
 have hin:=huN.inS hltq;have hld:=ldS huN (C8 hm7) hltq;have htk:=dr6 hltq;have hnn:(names.take q).contains names[q]=false:=by
  cases h:(names.take q).contains names[q]
  ·rfl
  ·exfalso
   have h1:=dt6.1 h;have h2:(names.take (q+1)).Nodup:=hnd.sublist (List.take_sublist _ _);rw[htk,dw0]at h2;exact h2.2.2 _ h1 _ (by simp) rfl
 generalize names[q]=n at hld htk hnn;have hlen7:(((List.range k).filter fun(a:Nat)=>(GV a).contains n).map (fun(a:Nat)=>(a:Int))++if(names.take q).contains n then[(k:Int)]else[]).length≤1000:=by
  rw[dr1,dr9];have h1:=dt9 (fun(a:Nat)=>(GV a).contains n) (List.range k);rw[dw7]at h1;have h2:(if(names.take q).contains n then[(k:Int)]else[]).length≤1:=by split<;>simp
  omega
 obtain⟨q1,q2,v',w8,w9,q3,q4,s9,hm9,hN9⟩:=s7.push (b7 s7.ext) n (k:Int) (by omega) rfl (e:=112);have hGn:(fun m=>if m=n then(((List.range k).filter fun(a:Nat)=>(GV a).contains n).map (fun(a:Nat)=>(a:Int))++if(names.take q).contains n then[(k:Int)]else[])++[(k:Int)]else((List.range k).filter fun(a:Nat)=>(GV a).contains m).map (fun(a:Nat)=>(a:Int))++if(names.take q).contains m then[(k:Int)]else[])=fun m=>((List.range k).filter fun(a:Nat)=>(GV a).contains m).map (fun(a:Nat)=>(a:Int))++if(names.take (q+1)).contains m then[(k:Int)]else[]:=by
  funext m
  have hcm:(names.take (q+1)).contains m=((names.take q).contains m||decide (m=n)):=by
   rw[htk,dD8,dD2,dt6,dt6,ds4,dt8,decide_eq_true_iff]
  rw[hcm];split
  ·next h=>subst h;rw[hnn];simp
  ·next h=>simp[h]
 rw[hGn]at s9;simp only[i5,n8,z6,simprocAttr,h28,h57,j4,j6,j26,hin,hld,q1,q2,q3,bB3,q4];exact⟨(q+1,aF0 kv7 n v'),by simp only[];omega,by simp only[];rw[A8 q (by omega)],by simp only[];omega,⟨_,by trivial⟩,s9,hm7.chain hm9 (fun b hb h=>(hN7 b h).resolve_right (by omega)),fun b hb=>(hN9 b hb).elim (hN7 b) fun h=>.inr (dr7 hm7.size h)⟩
theorem bV6{p:Pg}{i:Nat}(hr:E8 p)(hw:D1 p≤1000000)(hi:i<p.procs.length){k:Nat}(hk:(k:Int)<(E2 (b9 p) i).n):((y5 p).takes (i:Int) (k:Int)).Pairwise (fun a b=>ltS a b=true)∧((y5 p).takes (i:Int) (k:Int)).length≤2000000:=by
 obtain⟨x,pt⟩:=O8 hr.may hw i hi;have hwy:=V0 pt;generalize x+A5 p.procs[i].body=y at pt hwy;unfold Bk.takes;rw[T9 hi];split
 ·refine⟨Q5 _,dr7 (as5 _) ?_⟩;have h1:=aF2 (av1 hr.may) (i:Int);rw[dr1,du0];have e:F5 (y5 p).outs (i:Int)=F5 (J1 p) (i:Int):=rfl;rw[e];omega
 ·next h1=>
  split
  ·exact⟨List.Pairwise.nil,by simp⟩
  ·next h0=>
   have h0':¬(k:Int)=0:=fun h=>h0 (.inl h);obtain⟨q,hqe,hqL,_⟩:=av4 hwy (k:=k) (by omega) (by omega);rw[hqe];exact((br7 hr hw).row hqL).2
def ak8(b:Bk)(i:Int)(n:A7)(c:Nat):List Nat:=(List.range (b.givers i n).length).filter fun f=>aU1 (b.nx i) (b.givers i n) ((b.givers i n).getD f 0) c
def Y6(b:Bk)(i:Int)(n:A7)(c:Nat)(f:Nat):List Fw:=if(b.takes i c).contains n then[⟨(b.way i).place (((b.givers i n).getD f 0:Nat):Int),(b.way i).place c,n⟩]else[]
def aA0(b:Bk)(i:Int)(n:A7)(c:Nat):List Fw:=(ak8 b i n c).flatMap (Y6 b i n c)
def ak7(b:Bk)(i:Int)(n:A7):List Fw:=(List.range (b.way i).n.toNat).flatMap (aA0 b i n)
theorem aP1(b:Bk)(i:Int)(n:A7):(b.givers i n).Nodup:=by
 unfold Bk.givers;exact List.nodup_range.filter _
theorem ac3{b:Bk}{i:Int}{n:A7}{x:Fw}:x∈ak7 b i n↔∃a c:Nat,a∈b.givers i n∧c<(b.way i).n.toNat∧(b.takes i c).contains n=true∧aU1 (b.nx i) (b.givers i n) a c=true∧x=⟨(b.way i).place a,(b.way i).place c,n⟩:=by
 unfold ak7 aA0 Y6 ak8;simp only[dw1,dv0,dv2];constructor
 ·rintro⟨c,hc,f,⟨hf,hcm⟩,hx⟩;split at hx
  ·next ht=>
   rw[dt8]at hx;refine⟨(b.givers i n).getD f 0,c,?_,hc,ht,hcm,hx⟩;rw[List.getD,dq7 hf];exact dr5 hf
  ·simp at hx
 ·rintro⟨a,c,ha,hc,ht,hcm,rfl⟩;obtain⟨f,hf,rfl⟩:=dw5.1 ha;have hg:(b.givers i n).getD f 0=(b.givers i n)[f]:=by rw[List.getD,dq7 hf];rfl
  exact⟨c,hc,f,⟨hf,by rw[hg];exact hcm⟩,by rw[if_pos ht,hg];simp⟩
theorem aV5{b:Bk}{i:Int}{x:Fw}:x∈b.flow0 i↔∃n,x∈ak7 b i n:=by
 unfold Bk.flow0;simp only[dw1,dv0,dt7,dv2,dt0,ac3];constructor
 ·rintro⟨a,ha,n,hn,c,⟨hc,ht,hcm⟩,rfl⟩;refine⟨n,a,c,?_,hc,ht,hcm,rfl⟩;unfold Bk.givers;rw[dv2,dv0,dt6];exact⟨ha,hn⟩
 ·rintro⟨n,a,c,ha,hc,ht,hcm,rfl⟩;unfold Bk.givers at ha;rw[dv2,dv0,dt6]at ha;exact⟨a,ha.1,n,ha.2,c,⟨hc,ht,hcm⟩,rfl⟩
theorem aq0{α β:Type}{f:α→List β}:∀{l:List α},l.Nodup→(∀a∈l,(f a).Nodup)→(∀a∈l,∀b∈l,∀x,x∈f a→x∈f b→a=b)→(l.flatMap f).Nodup
 | [],_,_,_=>by simp
 | a::l,hn,h1,h2=>by
  rw[dD6]at hn;rw[dA4,dw0];refine⟨h1 a (by simp),aq0 hn.2 (fun b hb=>h1 b (by simp[hb])) (fun b hb c hc=>h2 b (by simp[hb]) c (by simp[hc])),fun x hx y hy e=>?_⟩;subst e;obtain⟨b,hb,hxb⟩:=dw1.1 hy;have:=h2 a (by simp) b (by simp[hb]) x hx hxb;subst this;exact hn.1 hb
def br1(w:Wy):Prop:=∀a c:Nat,a<w.n.toNat→c<w.n.toNat→w.place a=w.place c→a=c
theorem bT0{l:List Nat}(h:l.Nodup){f f':Nat}(hf:f<l.length)(hf':f'<l.length)(e:l.getD f 0=l.getD f' 0):f=f':=by
 have g1:l.getD f 0=l[f]:=by rw[List.getD,dq7 hf];rfl
 have g2:l.getD f' 0=l[f']:=by rw[List.getD,dq7 hf'];rfl
 rw[g1,g2]at e;have hnd:=dz0.1 h;rcases Nat.lt_trichotomy f f' with h|h|h
 ·exact absurd e (hnd f f' hf hf' h)
 ·exact h
 ·exact absurd e.symm (hnd f' f hf' hf h)
theorem bt7{l:List Nat}{f:Nat}(hf:f<l.length):l.getD f 0∈l:=by
 rw[List.getD,dq7 hf];exact dr5 hf
theorem af9(b:Bk)(i:Int)(n:A7):∀a∈b.givers i n,a<(b.way i).n.toNat:=fun a ha=>by
 unfold Bk.givers at ha;exact dv0.1 (dv2.1 ha).1
theorem ax5{b:Bk}{i:Int}{n:A7}{c f:Nat}{x:Fw}(h:x∈Y6 b i n c f):x.src=(b.way i).place (((b.givers i n).getD f 0:Nat):Int)∧x.dst=(b.way i).place c:=by
 unfold Y6 at h;split at h
 ·rw[dt8]at h;subst h;exact⟨rfl,rfl⟩
 ·simp at h
theorem bG4{b:Bk}{i:Int}(hp:br1 (b.way i))(n:A7):(ak7 b i n).Nodup:=by
 unfold ak7;refine aq0 List.nodup_range (fun c hc=>?_) fun c hc c' hc' x hx hx'=>?_
 ·unfold aA0;refine aq0 (List.nodup_range.filter _) (fun f hf=>?_) fun f hf f' hf' x hx hx'=>?_
  ·unfold Y6;split<;>simp
  ·have e1:=(ax5 hx).1.symm.trans (ax5 hx').1;have hf1:=dv0.1 (dv2.1 hf).1;have hf2:=dv0.1 (dv2.1 hf').1;exact bT0 (aP1 b i n) hf1 hf2 (hp _ _ (af9 b i n _ (bt7 hf1)) (af9 b i n _ (bt7 hf2)) e1)
 ·unfold aA0 at hx hx';obtain⟨f,_,hx⟩:=dw1.1 hx;obtain⟨f',_,hx'⟩:=dw1.1 hx';exact hp _ _ (dv0.1 hc) (dv0.1 hc') ((ax5 hx).2.symm.trans (ax5 hx').2)
theorem bG3{b:Bk}{i:Int}(hp:br1 (b.way i))(hg:∀a:Nat,a<(b.way i).n.toNat→(b.gives i a).Nodup):(b.flow0 i).Nodup:=by
 unfold Bk.flow0;refine aq0 List.nodup_range (fun a ha=>?_) fun a ha a' ha' x hx hx'=>?_
 ·refine aq0 (hg a (dv0.1 ha)) (fun n hn=>?_) fun n hn n' hn' x hx hx'=>?_
  ·rw[List.Nodup,List.pairwise_map];refine List.Pairwise.imp_of_mem (fun{c c'} hc hc' hne e=>?_) (List.nodup_range.filter _);exact hne (hp _ _ (dv0.1 (dv2.1 hc).1) (dv0.1 (dv2.1 hc').1) (ds7 Fw.dst e))
  ·obtain⟨c,_,rfl⟩:=dt7.1 hx;obtain⟨c',_,e⟩:=dt7.1 hx';exact(ds7 Fw.var e).symm
 ·obtain⟨n,_,hx⟩:=dw1.1 hx;obtain⟨n',_,hx'⟩:=dw1.1 hx';obtain⟨c,_,rfl⟩:=dt7.1 hx;obtain⟨c',_,e⟩:=dt7.1 hx';exact(hp _ _ (dv0.1 ha') (dv0.1 ha) (ds7 Fw.src e)).symm
theorem bQ9{b:Bk}{i:Int}(hp:br1 (b.way i))(hg:∀a:Nat,a<(b.way i).n.toNat→(b.gives i a).Nodup){keys:List A7}(hk:keys.Nodup)(hin:∀n,b.givers i n≠[]→n∈keys):(keys.flatMap (ak7 b i)).Perm (b.flow0 i):=by
 have hnd:(keys.flatMap (ak7 b i)).Nodup:=aq0 hk (fun n _=>bG4 hp n) fun n _ n' _ x hx hx'=>by
  obtain⟨_,_,_,_,_,_,rfl⟩:=ac3.1 hx;obtain⟨_,_,_,_,_,_,e⟩:=ac3.1 hx';exact ds7 Fw.var e
 rw[List.perm_ext_iff_of_nodup hnd (bG3 hp hg)];intro x;rw[aV5,dw1];constructor
 ·rintro⟨n,_,h⟩;exact⟨n,h⟩
 ·rintro⟨n,h⟩;refine⟨n,hin n fun e=>?_,h⟩;obtain⟨a,_,ha,_⟩:=ac3.1 h;rw[e]at ha;simp at ha
theorem cu5{b:Bk}{i:Int}(hp:br1 (b.way i))(hg:∀a:Nat,a<(b.way i).n.toNat→(b.gives i a).Nodup)(hpl:∀a:Nat,a<(b.way i).n.toNat→plc ((b.way i).place a)){l:List Fw}(h:l.Perm (b.flow0 i)):V9 bp9 l=b.flows i:=by
 have hplc:∀x∈b.flow0 i,plc x.src∧plc x.dst:=fun x hx=>by
  obtain⟨n,h⟩:=aV5.1 hx;obtain⟨a,c,ha,hc,_,_,rfl⟩:=ac3.1 h;have ha':a<(b.way i).n.toNat:=by
   unfold Bk.givers at ha;exact dv0.1 (dv2.1 ha).1
  exact⟨hpl a ha',hpl c hc⟩
 have ht:∀a b:Fw,bp9 a b=true∨bp9 b a=true:=fun a b=>bE8.total a b;have htr:∀a b c:Fw,bp9 a b=true→bp9 b c=true→bp9 a c=true:=fun a b c h1 h2=>du9 (bE8.trans a b c (dr0 h1) (dr0 h2));unfold Bk.flows;refine ay9 (le:=bp9) ((G5 _ _).trans (h.trans (G5 _ _).symm)) (fun a ha b' hb h1 h2=>?_) (am1 (fun a _ b _=>ht a b) fun a _ b _ c _=>htr a b c) (am1 (fun a _ b _=>ht a b) fun a _ b _ c _=>htr a b c);have ha':=h.mem_iff.1 ((G5 _ _).mem_iff.1 ha);have hb':=h.mem_iff.1 ((G5 _ _).mem_iff.1 hb);exact bG7 (hplc _ ha') (hplc _ hb') (bE8.eq0 h1 h2)
theorem bG8{kv:List (A7×Value)}(hn:(kv.map (·.1)).Nodup){n:A7}{v:Value}(h:(n,v)∈kv):L5 kv n=some v:=by
 induction kv with
 | nil=>simp at h
 | cons p l ih=>
  rw[dv6,dD6]at hn;rcases dt1.1 h with rfl|h
  ·simp[L5]
  ·have hne:p.1≠n:=fun e=>hn.1 (by rw[e];exact dt7.2 ⟨_,h,rfl⟩);have:=ih hn.2 h;simp only[L5]at this ⊢;simp[hne,this]
theorem cu7{kv:List (A7×Value)}{n:A7}{v:Value}(h:L5 kv n=some v):(n,v)∈kv:=by
 unfold L5 at h;obtain⟨p,h1,rfl⟩:=Option.map_eq_some_iff.1 h;have h2:=List.find?_some h1;have h3:=dr0 h2;subst h3;exact List.mem_of_find?_eq_some h1
theorem aG9{α β:Type}{f:α→List β}{B:Nat}:∀{l:List α},(∀a∈l,(f a).length≤B)→(l.flatMap f).length≤l.length*B
 | [],_=>by simp
 | a::l,h=>by
  rw[dA4,dr1,dt2,dC1,Nat.one_mul];have h1:=h a (by simp);have h2:=aG9 (l:=l) (f:=f) (B:=B) fun b hb=>h b (by simp[hb]);omega
theorem bR2(b:Bk)(i:Int)(n:A7):(b.givers i n).length≤(b.way i).n.toNat:=by
 unfold Bk.givers;exact dr7 (dt9 _ _) (by simp)
theorem bt6(b:Bk)(i:Int)(n:A7)(c:Nat):(ak8 b i n c).length≤(b.way i).n.toNat:=by
 unfold ak8;refine dr7 (dt9 _ _) ?_;rw[dw7];exact bR2 b i n
theorem bi1(b:Bk)(i:Int)(n:A7)(c f:Nat):(Y6 b i n c f).length≤1:=by
 unfold Y6;split<;>simp
theorem bQ8(b:Bk)(i:Int)(n:A7)(c q:Nat):(((ak8 b i n c).take q).flatMap (Y6 b i n c)).length≤(b.way i).n.toNat:=by
 have h1:=aG9 (l:=(ak8 b i n c).take q) (f:=Y6 b i n c) (B:=1) fun f _=>bi1 b i n c f;have h2:=bt6 b i n c;have h4:((ak8 b i n c).take q).length≤(ak8 b i n c).length:=by rw[ds3];omega
 omega
theorem cj2(b:Bk)(i:Int)(n:A7)(c:Nat):(aA0 b i n c).length≤(b.way i).n.toNat:=by
 have h:=bQ8 b i n c (ak8 b i n c).length;rw[ds2]at h;exact h
theorem bi0(b:Bk)(i:Int)(n:A7)(c:Nat):((List.range c).flatMap (aA0 b i n)).length≤c*(b.way i).n.toNat:=by
 have h1:=aG9 (l:=List.range c) (f:=aA0 b i n) (B:=(b.way i).n.toNat) fun c _=>cj2 b i n c
 rwa [dw7]at h1
theorem cj3(b:Bk)(i:Int)(n:A7):(ak7 b i n).length≤(b.way i).n.toNat*(b.way i).n.toNat:=bi0 b i n _
theorem cw4{b:Bk}{i:Int}{keys:List A7}(hk:keys.Nodup)(hin:∀n∈keys,b.givers i n≠[])(hg:∀a:Nat,a<(b.way i).n.toNat→(b.gives i a).length≤100):keys.length≤(b.way i).n.toNat*100:=by
 have h1:=aG9 (l:=List.range (b.way i).n.toNat) (f:=fun(a:Nat)=>b.gives i (a:Int)) (B:=100) fun a ha=>hg a (dv0.1 ha);rw[dw7]at h1;refine dr7 (M9 hk fun n hn=>?_) h1;obtain⟨a,ha⟩:=List.exists_mem_of_ne_nil _ (hin n hn);unfold Bk.givers at ha;rw[dv2,dt6]at ha;exact dw1.2 ⟨a,ha.1,ha.2⟩
theorem cT4{p:Pg}{i x y:Nat}{wy:Wy}(h:WyOk p i x y wy)(h200:(b9 p).l.length≤200):br1 wy:=fun a c ha hc e=>by
 have hn:=h.n;have h1:=h.part.ok.len;have h2:=h.part.ok.le;rw[h.place,h.place]at e;split at e<;>split at e<;>first|omega|(split at e<;>first|omega|(split at e<;>omega))
theorem cT5{p:Pg}{i x y:Nat}{wy:Wy}(h:WyOk p i x y wy)(h200:(b9 p).l.length≤200)(a:Nat)(ha:a<wy.n.toNat):plc (wy.place a):=by
 have hn:=h.n;have h1:=h.part.ok.len;have h2:=h.part.ok.le;rw[h.place];unfold plc;split
 ·omega
 ·split<;>omega
theorem cj4{b:Bk}{i:Int}(hpl:∀a:Nat,a<(b.way i).n.toNat→plc ((b.way i).place a)){n m:A7}{s t:Fw}(hs:s∈ak7 b i n)(ht:t∈ak7 b i m)(h1:decide (fwC s t≤0)=true)(h2:decide (fwC t s≤0)=true):s=t:=by
 obtain⟨a,c,ha,hc,_,_,rfl⟩:=ac3.1 hs;obtain⟨a',c',ha',hc',_,_,rfl⟩:=ac3.1 ht;exact bG7 ⟨hpl _ (af9 _ _ _ _ ha),hpl _ hc⟩ ⟨hpl _ (af9 _ _ _ _ ha'),hpl _ hc'⟩ (bE8.eq0 h1 h2)
theorem cr1(s d:Int)(n:A7):B8 prog 97 [(0,.int .i64 s),(1,.int .i64 d),(2,o9 n)]=some (.agg (A6.cells (⟨s,d,n⟩:Fw)).toArray):=by
 simp[B8,de6,J5,Instr.fill,Value.cells,o9];rfl
def aA8(T:Nat→List A7)(M k:Nat):List (List A7):=(List.range M).map fun c=>if c<k then T c else[]
theorem aW3(T:Nat→List A7)(M k:Nat):(aA8 T M k).length=M:=by simp[aA8]
theorem bU2(T:Nat→List A7)(M:Nat):List.replicate M []=aA8 T M 0:=by
 apply dy6
 ·simp[aA8]
 ·intro i h1 h2;simp[aA8]
theorem cn4{T:Nat→List A7}{M k:Nat}:(aA8 T M k).set k (T k)=aA8 T M (k+1):=by
 apply dy6
 ·simp[aA8]
 ·intro i h1 h2;rw[List.getElem_set];simp only[aA8,dA2,dE4];split
  ·next h=>subst h;rw[if_pos (by omega)]
  ·next h=>
   by_cases h3:i<k
   ·rw[if_pos h3,if_pos (by omega)]
   ·rw[if_neg h3,if_neg (by omega)]
theorem cn3{T:Nat→List A7}{M c:Nat}(hc:c<M):(aA8 T M M)[c]?=some (T c):=by
 simp only[aA8,du5,dz8 hc,dx7,if_pos hc]
theorem cA3{l:List (List Int)}{c:Nat}(hc:c<l.length):l[c]?=some (C1 l c):=by
 unfold C1;rw[if_pos ⟨by omega,by omega⟩,dt5,List.getD,dq7 hc];rfl
def bq5(kv:List (A7×Value))(j:Nat):A7:=match kv[j]? with
 | some q=>q.1
 | none=>e0
theorem aP6{kv:List (A7×Value)}{j:Nat}{q:A7×Value}(h:kv[j]?=some q):bq5 kv j=q.1:=by
 unfold bq5;rw[h]
theorem cw3{kv:List (A7×Value)}(hn:(kv.map (·.1)).Nodup){j q:Nat}(hj:j<kv.length)(hq:q<kv.length)(e:bq5 kv j=bq5 kv q):j=q:=by
 rw[aP6 (dq7 hj),aP6 (dq7 hq)]at e;have h:=dz0.1 hn;rcases Nat.lt_trichotomy j q with h1|h1|h1
 ·exact absurd (by rw[dA2,dA2];exact e) (h j q (by simpa using hj) (by simpa using hq) h1)
 ·exact h1
 ·exact absurd (by rw[dA2,dA2];exact e.symm) (h q j (by simpa using hq) (by simpa using hj) h1)
end Go.Proofs.YtcbnbgpphippoaaGreat

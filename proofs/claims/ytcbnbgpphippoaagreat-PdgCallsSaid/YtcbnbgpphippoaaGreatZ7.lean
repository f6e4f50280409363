/- pdgCalls.proved: for every input the law returns true. No condition. Part 7 of 7. -/
import Derived.Carry
import Derived.Deep.Matrix
import Derived.Deep.Slices
import Derived.OpenShut
import Derived.ProofKit
import Derived.Test.YtcbnbgpphippoaaGreatRows
import Derived.WalkKit
import Derived.Test.YtcbnbgpphippoaaGreatZ6
set_option maxRecDepth 1000000
set_option maxHeartbeats 8000000
set_option linter.unusedVariables false
set_option linter.unusedSimpArgs false
set_option linter.unnecessarySimpa false
set_option linter.defProp false
namespace Go.Proofs.YtcbnbgpphippoaaGreat
open Go 
section
open Go.ChangeShapes Go.WideShapes Go.ChangeAt Go.RowKit
theorem own:ownKnob Tryz.prog.godebug=none:=by kernel_rfl
theorem t8.keptBut{w w':World}(h:o7 w w')(may:MemPlace→Prop):w.keptBut w' may:=by
 refine⟨h.os,h.output,fun i hi=>?_⟩;rw[h.block i hi id];cases e:w.heap[i]? with
 | none=>rfl
 | some o=>
  cases o with
  | cells c t fr=>exact⟨rfl,rfl,rfl,fun _ _=>rfl⟩
  | map es clock=>exact .inr ⟨rfl,rfl⟩
  | _=>rfl
end
section
open Go.ChangeShapes Go.WideShapes Go.ChangeAt Go.RowKit
theorem t8.belowE{w w':World}(h:o7 w w'):Below w.heap.size w w':=⟨h.os,h.tape,h.output,h.size,fun k hk=>h.block k hk id⟩
section
variable {H:Type} {enc:TypeId×Value→H} {P:Program}
theorem bc5(hl:laidOutB P=true){W W':World}(hx:o7 W W'):∀{ts:List TypeId} {vs:List Value} {ds:List (DataW H)} {ps:List MemPlace},
  (∀t∈ts,P.readableRec t=true∧t<P.types.size)→(∀p∈ps,p.block<W.heap.size)→DataW.TrodAll enc P W 0 (fun _=>true) true ts vs ds ps →
  DataW.TrodAll enc P W' 0 (fun b=>decide (b<W.heap.size)) true ts vs ds ps
 | [],vs,ds,ps,_,_,h=>by
  obtain⟨rfl,rfl,rfl⟩:=trodAll_nil h;exact trodAll_mk0
 | t::ts,vs,ds,ps,ht,hp,h=>by
  obtain⟨v,vs',d,ds',p,q,rfl,rfl,rfl,h0,h1⟩:=trodAll_cons h;refine trodAll_cons_mk ?_ (bc5 hl hx (fun t' h'=>ht t' (dx9 _ h')) (fun x h'=>hp x (dC9 _ h')) h1);have:=ht t (by simp);exact h0.elim fun n hn=>Below.trod hl this.1 this.2 ⟨n,hn⟩ hx.belowE (fun x h'=>hp x (dw4 _ h'))
theorem cz0{f:Func}{s:ChangeSpec}{apart fresh handsOn:Bool}{W W':World}{args:Array Value}{v:Value}{ds:List (DataW H)}{before:List MemPlace}
  (hl:laidOutB P=true) (ht:∀t∈f.params.toList,P.readableRec t=true∧t<P.types.size)
  (hv:s.vars=[]) (hW:DataW.Whole enc P f.params.toList s.vars apart W args.toList ds [] before)
  (hA:DataW.TrodAll enc P W 0 (fun _=>true) true f.params.toList args.toList ds before)
  (hs:(s.fn H ds).args=ds) (hs2:(s.fn H ds).vars=[])
  (hres:∀(b:Nat) (sp:Nat→Bool) (hd:Bool),DataW.TrodAll enc P W' b sp hd f.resultTypes.toList (v.resultList f.resultTypes.size) (s.fn H ds).results [])
  (hx:o7 W W'):s.post enc P f apart fresh handsOn false W args v W':=by
 refine⟨ds,[],before,[],before,[],hW,?_,?_,?_,hx.keptBut _,fun h=>by cases h⟩
 ·rw[du2];exact hres _ _ _
 ·rw[du2,hs];exact bc5 hl hx ht (fun p hp=>hW.lt p hp) hA
 ·rw[du2,hs2,hv];exact rfl
end
end
section
open Go.ChangeShapes Go.WideShapes Go.ChangeAt Go.RowKit
section
variable {H:Type} {enc:TypeId×Value→H} {P:Program} {W:World} {base:Nat} {sp:Nat→Bool} {held:Bool}
def Opn(enc:TypeId×Value→H)(P:Program)(W:World)(base:Nat)(sp:Nat→Bool)(held:Bool)(α:Type)[A3 α](T:TypeId)(n:Nat):Prop:=
 ∀cs d,DataW.trod enc P W base sp held n T cs=some d→∃x:α,A3.enc (i4 W) cs x
theorem bB5{T:TypeId}(ht:P.underlying T=some (.int .i64))(n:Nat):Opn enc P W base sp held Int T n:=fun cs d h=>by
 obtain⟨k,rfl,_⟩:=DataW.trod_int ht h;exact⟨k,rfl⟩
theorem bB4{T:TypeId}(ht:P.underlying T=some .bool)(n:Nat):Opn enc P W base sp held Bool T n:=fun cs d h=>by
 obtain⟨k,rfl,_⟩:=DataW.trod_bool ht h;exact⟨k,rfl⟩
theorem aM2{T:TypeId}(ht:P.underlying T=some .string)(n:Nat):Opn enc P W base sp held A7 T n:=fun cs d h=>by
 obtain⟨⟨b⟩,rfl,_⟩:=DataW.trod_string ht h;exact⟨ofA b,by rw[bn4];rfl⟩
theorem bK5{α:Type}[A3 α]{h:Hp}(a:Addr):∀(len:Nat),(∀i,i<len→∃cs:List Value,cs.length=A3.sz α∧(∀r,r<A3.sz α→I5 h ((a.add (i*A3.sz α)).add r)=cs[r]?)∧∃x:α,A3.enc h cs x) →
  ∃(es:List Value) (xs:List α),xs.length=len∧es.length=len*A3.sz α∧N1 h es xs∧∀j u,es[j]?=some u→I5 h (a.add j)=some u
 | 0,_=>⟨[],[],rfl,by simp,rfl,fun j u hj=>by simp at hj⟩
 | len+1,hx=>by
  obtain⟨es,xs,h1,h2,h3,h4⟩:=bK5 a len fun i hi=>hx i (by omega);obtain⟨cs,k1,k2,x,k3⟩:=hx len (by omega);refine⟨es++cs,xs++[x],by simp[h1],by rw[dr1,h2,k1,dC1,Nat.one_mul],ai5 h3 (aZ4 k3),fun j u hj=>?_⟩;rcases dv3 j es.length with hlt|hge
  ·rw[dw2 hlt]at hj;exact h4 j u hj
  ·rw[dv7 hge]at hj;have hr:=(dr4.1 hj).1;have:=k2 (j-es.length) (by omega);rw[Addr.add_add',h2,show len*A3.sz α+(j-len*A3.sz α)=j by omega]at this;rw[this,←h2];exact hj
theorem aj0{α:Type}[A3 α]{t e:TypeId}{n:Nat}(ht:P.underlying t=some (.slice e))(hc:P.cellsOf e=A3.sz α)(hn:∀m,m<n→Opn enc P W base sp held α e m):Opn enc P W base sp held (List α) t n:=fun cs d h=>by
 rcases DataW.trod_slice ht h with⟨rfl,_⟩|⟨a,len,cap,elems,rest,m,rfl,rfl,_,_,hlc,_,hel,hx,_⟩
 ·exact⟨[],H7⟩
 ·have hrow:∀i,i<len→∃cs:List Value,cs.length=A3.sz α∧(∀r,r<A3.sz α→I5 (i4 W) ((a.add (i*A3.sz α)).add r)=cs[r]?)∧∃x:α,A3.enc (i4 W) cs x:=fun i hi=>by
   have h1:=hx i hi;rw[dq7 (by omega)]at h1;obtain⟨cs',h2,h3⟩:=dx0.1 h1;obtain⟨_,h4,h5⟩:=World.cells?_some h2;rw[hc]at h4 h5;exact⟨cs',h4,h5,hn m (by omega) _ _ h3⟩
  obtain⟨es,xs,h1,_,h3,h4⟩:=bK5 (α:=α) a len hrow;exact⟨xs,some a,len,cap,rfl,h1.symm,hlc,es,h3,fun j u hj=>⟨a,rfl,h4 j u hj⟩⟩
end
section
variable {H:Type} {enc:TypeId×Value→H} {W:World} {base:Nat} {sp:Nat→Bool} {held:Bool}
theorem aT7:Tryz.prog.cellsOf 9=1:=by kernel_rfl
theorem cs8:Tryz.prog.cellsOf 3=1:=by kernel_rfl
theorem cs9:Tryz.prog.cellsOf 2=1:=by kernel_rfl
theorem by9:Tryz.prog.cellsOf 4=1:=by kernel_rfl
theorem cs7:Tryz.prog.cellsOf 22=1:=by kernel_rfl
theorem cY4:Tryz.prog.cellsOf 39=1:=by kernel_rfl
theorem cY3:Tryz.prog.cellsOf 42=1:=by kernel_rfl
theorem cN2:Tryz.prog.cellsOf 43=1:=by kernel_rfl
theorem cY6:Tryz.prog.cellsOf 49=1:=by kernel_rfl
theorem cY8:Tryz.prog.cellsOf 23=1:=by kernel_rfl
theorem cG3:Tryz.prog.cellsOf 41=4:=by kernel_rfl
theorem cY2:Tryz.prog.cellsOf 101=6:=by kernel_rfl
theorem cG4:Tryz.prog.cellsOf 45=13:=by kernel_rfl
theorem cY5:Tryz.prog.cellsOf 68=2:=by kernel_rfl
theorem cY7:Tryz.prog.cellsOf 51=5:=by kernel_rfl
theorem dk8:Tryz.prog.cellsOf 25=2:=by kernel_rfl
theorem be7(n:Nat):Opn enc Tryz.prog W base sp held (List A7) 22 n:=aj0 Tryz.underlying22 aT7 fun m _=>aM2 Tryz.underlying9 m
theorem db3(n:Nat):Opn enc Tryz.prog W base sp held Pa 68 n:=fun cs d h=>by
 obtain⟨xs,m,rfl,rfl,hl,hlen,hf⟩:=DataW.trod_struct Tryz.underlying68 h;have hlen:xs.length=2:=hlen;rw[cY5]at hl
 match cs,hl with
 | [c0,c1],_=>
  have f0:=hf 0 _ rfl;have f1:=hf 1 _ rfl;rw[dq7 (by omega)]at f0 f1;simp only[aT7,by9,List.getElem_toArray,dD3,dB5,dA1,List.drop_succ_cons,dD5,dC6]at f0 f1;obtain⟨x0,e0⟩:=aM2 Tryz.underlying9 m _ _ f0;obtain⟨x1,e1⟩:=bB4 Tryz.underlying4 m _ _ f1;have e0:[c0]=[o9 x0]:=e0;have e1:[c1]=[.bool x1]:=e1;simp only[dD9,and_true]at e0 e1;subst e0;subst e1;exact⟨⟨x0,x1⟩,rfl⟩
theorem cO3:∀n,Opn enc Tryz.prog W base sp held Ex 41 n:=fun n=>by
 induction n using Nat.strongRecOn with
 | ind n ih=>
 intro cs d h;obtain⟨xs,m,rfl,rfl,hl,hlen,hf⟩:=DataW.trod_struct Tryz.underlying41 h;have hlen:xs.length=4:=hlen;rw[cG3]at hl
 match cs,hl with
 | [c0,c1,c2,c3],_=>
  have f0:=hf 0 _ rfl;have f1:=hf 1 _ rfl;have f2:=hf 2 _ rfl;have f3:=hf 3 _ rfl;rw[dq7 (by omega)]at f0 f1 f2 f3;simp only[aT7,cs8,cs9,cY4,List.getElem_toArray,dD3,dB5,dA1,List.drop_succ_cons,dD5,dC6]at f0 f1 f2 f3;obtain⟨x0,e0⟩:=bB5 Tryz.underlying3 m _ _ f0;obtain⟨x1,e1⟩:=bB5 Tryz.underlying2 m _ _ f1;obtain⟨x2,e2⟩:=aM2 Tryz.underlying9 m _ _ f2;obtain⟨x3,e3⟩:=aj0 Tryz.underlying39 cG3 (fun k hk=>ih k (by omega)) _ _ f3;have e0:[c0]=[.int .i64 x0]:=e0;have e1:[c1]=[.int .i64 x1]:=e1;have e2:[c2]=[o9 x2]:=e2;simp only[dD9,and_true]at e0 e1 e2;subst e0;subst e1;subst e2;exact⟨.mk x0 x1 x2 x3,bh4.2 ⟨c3,rfl,e3⟩⟩
theorem db2(n:Nat):Opn enc Tryz.prog W base sp held Ar 101 n:=fun cs d h=>by
 obtain⟨xs,m,rfl,rfl,hl,hlen,hf⟩:=DataW.trod_struct Tryz.underlying101 h;have hlen:xs.length=3:=hlen;rw[cY2]at hl
 match cs,hl with
 | [c0,c1,c2,c3,c4,c5],_=>
  have f0:=hf 0 _ rfl;have f1:=hf 1 _ rfl;have f2:=hf 2 _ rfl;rw[dq7 (by omega)]at f0 f1 f2;simp only[aT7,by9,cG3,List.getElem_toArray,dD3,dB5,dA1,List.drop_succ_cons,dD5,dC6]at f0 f1 f2;obtain⟨x0,e0⟩:=bB4 Tryz.underlying4 m _ _ f0;obtain⟨x1,e1⟩:=aM2 Tryz.underlying9 m _ _ f1;obtain⟨x2,e2⟩:=cO3 m _ _ f2;have e0:[c0]=[.bool x0]:=e0;have e1:[c1]=[o9 x1]:=e1;simp only[dD9,and_true]at e0 e1;subst e0;subst e1;exact⟨⟨x0,x1,x2⟩,_,rfl,e2⟩
theorem db6:∀n,Opn enc Tryz.prog W base sp held St 45 n:=fun n=>by
 induction n using Nat.strongRecOn with
 | ind n ih=>
 intro cs d h;obtain⟨xs,m,rfl,rfl,hl,hlen,hf⟩:=DataW.trod_struct Tryz.underlying45 h;have hlen:xs.length=10:=hlen;rw[cG4]at hl
 match cs,hl with
 | [c0,c1,c2,c3,c4,c5,c6,c7,c8,c9,c10,c11,c12],_=>
  have f0:=hf 0 _ rfl;have f1:=hf 1 _ rfl;have f2:=hf 2 _ rfl;have f3:=hf 3 _ rfl;have f4:=hf 4 _ rfl;have f5:=hf 5 _ rfl;have f6:=hf 6 _ rfl;have f7:=hf 7 _ rfl;have f8:=hf 8 _ rfl;have f9:=hf 9 _ rfl;rw[dq7 (by omega)]at f0 f1 f2 f3 f4 f5 f6 f7 f8 f9;simp only[aT7,cs8,by9,cs7,cG3,cY3,cN2,List.getElem_toArray,dD3,dB5,dA1,List.drop_succ_cons,dD5,dC6]at f0 f1 f2 f3 f4 f5 f6 f7 f8 f9;obtain⟨x0,e0⟩:=bB5 Tryz.underlying3 m _ _ f0;obtain⟨x1,e1⟩:=bB5 Tryz.underlying3 m _ _ f1;obtain⟨x2,e2⟩:=be7 m _ _ f2;obtain⟨x3,e3⟩:=aM2 Tryz.underlying9 m _ _ f3;obtain⟨x4,e4⟩:=aM2 Tryz.underlying9 m _ _ f4;obtain⟨x5,e5⟩:=cO3 m _ _ f5;obtain⟨x6,e6⟩:=bB4 Tryz.underlying4 m _ _ f6;obtain⟨x7,e7⟩:=aj0 Tryz.underlying42 cY2 (fun k _=>db2 k) _ _ f7;obtain⟨x8,e8⟩:=aj0 Tryz.underlying43 cG4 (fun k hk=>ih k (by omega)) _ _ f8;obtain⟨x9,e9⟩:=aj0 Tryz.underlying43 cG4 (fun k hk=>ih k (by omega)) _ _ f9;have e0:[c0]=[.int .i64 x0]:=e0;have e1:[c1]=[.int .i64 x1]:=e1;have e3:[c3]=[o9 x3]:=e3;have e4:[c4]=[o9 x4]:=e4;have e6:[c9]=[.bool x6]:=e6;simp only[dD9,and_true]at e0 e1 e3 e4 e6;subst e0;subst e1;subst e3;subst e4;subst e6;exact⟨.mk x0 x1 x2 x3 x4 x5 x6 x7 x8 x9,aU4.2 ⟨c2,[c5,c6,c7,c8],c10,c11,c12,rfl,e2,e5,e7,e8,e9⟩⟩
theorem db5(n:Nat):Opn enc Tryz.prog W base sp held Pr 51 n:=fun cs d h=>by
 obtain⟨xs,m,rfl,rfl,hl,hlen,hf⟩:=DataW.trod_struct Tryz.underlying51 h;have hlen:xs.length=5:=hlen;rw[cY7]at hl
 match cs,hl with
 | [c0,c1,c2,c3,c4],_=>
  have f0:=hf 0 _ rfl;have f1:=hf 1 _ rfl;have f2:=hf 2 _ rfl;have f3:=hf 3 _ rfl;have f4:=hf 4 _ rfl;rw[dq7 (by omega)]at f0 f1 f2 f3 f4;simp only[aT7,cs7,cY6,cN2,List.getElem_toArray,dD3,dB5,dA1,List.drop_succ_cons,dD5,dC6]at f0 f1 f2 f3 f4;obtain⟨x0,e0⟩:=aM2 Tryz.underlying9 m _ _ f0;obtain⟨x1,e1⟩:=aj0 Tryz.underlying49 cY5 (fun k _=>db3 k) _ _ f1;obtain⟨x2,e2⟩:=be7 m _ _ f2;obtain⟨x3,e3⟩:=aj0 Tryz.underlying43 cG4 (fun k _=>db6 k) _ _ f3;obtain⟨x4,e4⟩:=be7 m _ _ f4;have e0:[c0]=[o9 x0]:=e0;simp only[dD9,and_true]at e0;subst e0;exact⟨⟨x0,x1,x2,x3,x4⟩,c1,c2,c3,c4,rfl,e1,e2,e3,e4⟩
theorem db4(n:Nat):Opn enc Tryz.prog W base sp held Pg 25 n:=fun cs d h=>by
 obtain⟨xs,m,rfl,rfl,hl,hlen,hf⟩:=DataW.trod_struct Tryz.underlying25 h;have hlen:xs.length=2:=hlen;rw[dk8]at hl
 match cs,hl with
 | [c0,c1],_=>
  have f0:=hf 0 _ rfl;have f1:=hf 1 _ rfl;rw[dq7 (by omega)]at f0 f1;simp only[cs7,cY8,List.getElem_toArray,dD3,dB5,dA1,List.drop_succ_cons,dD5,dC6]at f0 f1;obtain⟨x0,e0⟩:=be7 m _ _ f0;obtain⟨x1,e1⟩:=aj0 Tryz.underlying23 cY7 (fun k _=>db5 k) _ _ f1;exact⟨⟨x0,x1⟩,c0,c1,rfl,e0,e1⟩
theorem cQ9{v:Value}{d:DataW H}{ps:List MemPlace}(h:DataW.Trod enc Tryz.prog W base sp held 25 v d ps):∃p:Pg,SV (i4 W) v p:=by
 obtain⟨n,hn⟩:=h;obtain⟨p,hp⟩:=db4 n _ _ hn;have hl:=A3.len hp;have hz:A3.sz Pg=2:=rfl;rw[hz]at hl;refine⟨p,v.cells.toList,?_,hp⟩;cases v with
 | agg cs=>simp[Value.cells]
 | _=>simp[Value.cells]at hl
end
end
end Go.Proofs.YtcbnbgpphippoaaGreat
namespace Go.Proofs.YtcbnbgpphippoaaGreat.pdgCalls
open Go Go.ChangeShapes Go.WideShapes Go.ChangeAt Go.RowKit
theorem dl4:laidOutB Tryz.prog=true:=by kernel_rfl
theorem cz8:∀t∈Tryz.f4.params.toList,Tryz.prog.readableRec t=true∧t<Tryz.prog.types.size:=by
 rw[Tryz.params4];decide +kernel
set_option maxRecDepth 100000 in
theorem cS5(os:Os)(started:os.Started)(H:Type)(enc:TypeId×Value→H):
  ReturnsInHanded {} Tryz.checked os 4 .any (Rows.pdgCallsSpec.pre6 enc Tryz.prog Tryz.f4 Rows.pdgCallsRow.domain false) (Rows.pdgCallsSpec.post enc Tryz.prog Tryz.f4 false true false false):=by
 refine returnsInHanded_of_change (C:=Tryz.checked) own started (by kernel_rfl) Tryz.func4
  (ChangeSpec.witness6 (enc:=enc) (C:=Tryz.checked) false ⟨#[],#[.agg #[.slice none 0 0,.slice none 0 0],.int .i64 0],[]⟩ 8 (by kernel_rfl) (by kernel_rfl) (by kernel_rfl) (by kernel_rfl)) ?_
 intro W base args ds gs before hval0 hW hcnd _;have hval:∀(j:Nat) t v,Tryz.f4.params[j]?=some t→args[j]?=some v→Value.okWide Tryz.prog W .any base t v:=hval0;have hW':=hW;obtain⟨p,q,hA0,hV,rfl,hfz,hnd⟩:=hW;have hA:DataW.TrodAll enc Tryz.prog W 0 (fun _=>true) true Tryz.f4.params.toList args.toList ds p:=hA0;have hA1:=hA;rw[Tryz.params4]at hA hval;obtain⟨v0,vs0,d0,ds0,p0,q0,hargs,rfl,rfl,h0,r0⟩:=trodAll_cons hA;obtain⟨v1,vs1,d1,ds1,p1,q1,rfl,rfl,rfl,h1,r1⟩:=trodAll_cons r0;obtain⟨rfl,rfl,rfl⟩:=trodAll_nil r1;obtain rfl:args=#[v0,v1]:=by cases args;simp_all
 obtain⟨rfl,rfl⟩:=trodVars_none hV;obtain⟨x0,hr0⟩:=cQ9 h0;obtain⟨a1,rfl,rfl,rfl,w1⟩:=open_int Tryz.underlying3 (hval 1 3 v1 rfl rfl) h1;clear hA0 hval0;simp only[List.append_nil]at hW' hA1;refine(bo7 v0 x0 a1 W hr0).mono fun e W' ⟨u,he,hu,hg⟩=>?_;subst he;subst hu;exact⟨_,rfl,cz0 dl4 cz8 rfl hW' hA1 rfl rfl (fun _ _ _=>(trodAll_cons_mk (shut_bool Tryz.underlying4 _) trodAll_mk0)) hg⟩
theorem dn3:Rows.pdgCallsRow.holds Tryz.pinned (OpenSpec.ofChange Rows.pdgCallsSpec):=
 OpenClaim.holds_of_wide 4 Tryz.f4 rfl rfl rfl rfl rfl rfl rfl ⟨rfl,rfl,rfl,rfl,rfl⟩ rfl rfl rfl rfl rfl (by kernel_rfl) Tryz.func4 (by kernel_rfl)
  (of_decide_eq_true (by kernel_rfl)) (by unfold Func.isWrapper;first|(rw[if_pos (by decide +kernel)];kernel_rfl)|(rw[if_neg (by decide +kernel)];exact⟨rfl,rfl⟩))
  (fun os started H enc _=>cS5 os started H enc)
theorem proved:Rows.PdgCallsSaid:=dn3
end Go.Proofs.YtcbnbgpphippoaaGreat.pdgCalls
namespace Go.Proofs.YtcbnbgpphippoaaGreat
open Go
end Go.Proofs.YtcbnbgpphippoaaGreat

import Derived.Test.YtggahhenbbgffaaGreatRows
import Derived.Test.YtggahhenbbgffaaGreatZ7
import Derived.Test.YtggahhenbbgffaaGreatZ8
set_option maxRecDepth 1000000
set_option maxHeartbeats 8000000
set_option linter.unusedVariables false
set_option linter.defProp false
namespace Go.Proofs.YtggahhenbbgffaaGreat
open Go 
section
open Go.ChangeShapes Go.WideShapes Go.ChangeAt Go.RowKit
section
variable {H:Type} {enc:TypeId×Value->H} {P:Program} {W:World} {v:Value} {d:DataW H} {ps:List MemPlace} {t:TypeId} {base:Nat} {sp:Nat->Bool} {held:Bool}
def cM6{e:TypeId}{g:Nat}(j:P.underlying t=some (.slice e))(f:Value.okWide P W .any g t v)(h:DataW.Trod enc P W base sp held t v d ps):
  ∃b,DataW.trod enc P W base sp held b t [v]=some (d,ps):=by
 obtain⟨a,n,c,rfl⟩:=okWide_slice j f;obtain⟨b,i⟩:=h;exact⟨b,by simpa[Value.cells]using i⟩
def bA2{e:TypeId}{z:Nat}(w:P.underlying t=some (.slice e))(C:P.underlying e=some (.int .i64))(B:P.cellsOf e=1)(i:Value.okWide P W .any z t v)(h:DataW.Trod enc P W base sp held t v d ps):
  ∃y:List Int,R (m8 W) v y/\∀n∈y,(Lit.int .i64 n).wf=true:=by
 obtain⟨n,g⟩:=cM6 w i h;rcases open_ints w C B g with⟨f,_⟩|⟨a,b,l,s,f,_,p,_,r,_,c,q⟩
 .simp only[eq9,and_true]at f;subst f;exact⟨[],⟨none,0,0,rfl,rfl,eg6 _,[],rfl,λj u k=>by simp at k⟩,λn g=>by cases g⟩
 .simp only[eq9,and_true]at f;subst f;have D:b<=s.length:=by rw[r];split<;>omega
  refine⟨s.take b,⟨some a,b,l,rfl,by rw[eg0];omega,p,(s.take b).map λn=>.int .i64 n,G4.2 rfl,λj u k=>⟨a,rfl,?_⟩⟩,λn g=>q n (em8 g)⟩;rw[ei9]at k;obtain⟨x,m,A⟩:=Option.map_eq_some_iff.1 k;have o:=(ef6.1 m).1;rw[eg0]at o;rw[List.getElem?_take_of_lt (by omega)]at m;have:=c j (by omega);rw[al0]at this;rw[this,<-A];simp[List.getD,m]
end
end
end Go.Proofs.YtggahhenbbgffaaGreat
namespace Go.Proofs.YtggahhenbbgffaaGreat.sliceWay
open Go Go.ChangeShapes Go.WideShapes Go.ChangeAt Go.RowKit
def bf3:laidOutB Tryz.prog=true:=by kernel_rfl
def al8:∀t∈Tryz.f6.params.toList,Tryz.prog.readableRec t=true/\t<Tryz.prog.types.size:=by
 rw[Tryz.params6];decide +kernel
def lifted(w:Os)(c:w.Started)(H:Type)(enc:TypeId×Value->H):
  ReturnsInHanded {} Tryz.checked w 6 .any (Rows.sliceWaySpec.pre6 enc Tryz.prog Tryz.f6 Rows.sliceWayRow.domain false) (Rows.sliceWaySpec.post enc Tryz.prog Tryz.f6 false true false false):=by
 refine returnsInHanded_of_change (C:=Tryz.checked) own c (by kernel_rfl) Tryz.func6
  (ChangeSpec.witness6 (enc:=enc) (C:=Tryz.checked) false ⟨#[],#[.agg #[.slice none 0 0,.slice none 0 0],.int .i64 0,.slice none 0 0],[]⟩ 8 (by kernel_rfl) (by kernel_rfl) (by kernel_rfl) (by kernel_rfl)) ?_
 intro W d args A gs i b r s _;have a:∀(j:Nat) t v,Tryz.f6.params[j]?=some t->args[j]?=some v->Value.okWide Tryz.prog W .any d t v:=b;have h:=r;obtain⟨p,q,f,J,rfl,L,N⟩:=r;have k:DataW.TrodAll enc Tryz.prog W 0 (λ_=>true) true Tryz.f6.params.toList args.toList A p:=f;have g:=k;rw[Tryz.params6]at k a;obtain⟨x,S,Z,B,p0,q0,l,rfl,rfl,F,P⟩:=trodAll_cons k;obtain⟨y,T,d1,D,p1,q1,rfl,rfl,rfl,G,Q⟩:=trodAll_cons P;obtain⟨o,U,d2,E,p2,q2,rfl,rfl,rfl,I,R⟩:=trodAll_cons Q;obtain⟨rfl,rfl,rfl⟩:=trodAll_nil R;obtain rfl:args=#[x,y,o]:=by cases args;simp_all
 obtain⟨rfl,rfl⟩:=trodVars_none J;obtain⟨V,m⟩:=bA3 F;obtain⟨z,rfl,rfl,rfl,w1⟩:=open_int Tryz.underlying3 (a 1 3 y rfl rfl) G;obtain⟨X,n,w2⟩:=bA2 Tryz.underlying24 Tryz.underlying3 (by kernel_rfl) (a 2 24 o rfl rfl) I;clear f b;simp only[List.append_nil]at h g;refine(bK8 x V z o X W m n).mono λe Y ⟨u,K,O,M⟩=>?_;subst K;subst O;exact⟨_,rfl,aR3 bf3 al8 rfl h g rfl rfl (λ_ _ _=>(trodAll_cons_mk (shut_bool Tryz.underlying4 _) trodAll_mk0)) M⟩
def kM:mapsRowed Tryz.prog=true:=by kernel_rfl
def kI:(Rows.sliceWayRow.inPlace==Tryz.prog.inPlace 6)=true:=by kernel_rfl
def kU:(Rows.sliceWayRow.unfollowed==Tryz.prog.unfollowed 6)=true:=by kernel_rfl
def kR:(Rows.sliceWayRow.recurses==Tryz.prog.recurses 6)=true:=by kernel_rfl
def kN:(Rows.sliceWayRow.named==Tryz.prog.varsNamed 6)=true:=by kernel_rfl
def kS:Tryz.prog.stopsHeard=true:=by kernel_rfl
def kE:Tryz.prog.mayEnter=true:=by kernel_rfl
def kL:(Rows.sliceWayRow.lifted==Tryz.prog.liftsFinal)=true:=by kernel_rfl
def kK:(Tryz.prog.make==some Rows.sliceWayRow.make)=true:=by kernel_rfl
def closed:joinedFacts Tryz.prog 6 Tryz.f6 Rows.sliceWaySpec Rows.sliceWayRow=true:=by
 unfold joinedFacts;rw[bf3,kM,kI,kU,kR,kN,kS,kE,kL,kK]
 kernel_rfl
def bZ6:Rows.sliceWayRow.holds Tryz.pinned (OpenSpec.ofChange Rows.sliceWaySpec):=
 OpenClaim.holds_of_wide 6 Tryz.f6 rfl rfl rfl rfl rfl rfl rfl ⟨rfl,rfl,rfl,rfl,rfl⟩ rfl rfl rfl rfl rfl (by kernel_rfl) Tryz.func6 closed
  (of_decide_eq_true (by kernel_rfl)) (by unfold Func.isWrapper;first|(rw[if_pos (by decide +kernel)];kernel_rfl)|(rw[if_neg (by decide +kernel)];exact⟨rfl,rfl⟩))
  (λc a H b _=>lifted c a H b)
theorem proved:Rows.SliceWaySaid:=bZ6
end Go.Proofs.YtggahhenbbgffaaGreat.sliceWay

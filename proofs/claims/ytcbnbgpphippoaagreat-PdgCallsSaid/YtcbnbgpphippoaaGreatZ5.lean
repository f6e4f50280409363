/- pdgCalls.proved: for every input the law returns true. No condition. Part 5 of 7. -/
import Derived.ArgAppend
import Derived.Laws.IdiomRangeMap
import Derived.Test.YtcbnbgpphippoaaGreatZ4
set_option maxRecDepth 1000000
set_option maxHeartbeats 8000000
set_option linter.unusedVariables false
set_option linter.unusedSimpArgs false
set_option linter.unnecessarySimpa false
set_option linter.defProp false
namespace Go.Proofs.YtcbnbgpphippoaaGreat
open Go Tryz
def aa2(h:Hp)(w:World)(T:TypeId)(v:Value)(xs:List Int):Prop:=
 (v = .slice none 0 0∧xs=[]) ∨
 ∃b off c cur,v = .slice (some ⟨b,off,none⟩) xs.length c∧h b=none∧w.heap[b]?=some (.cells cur T (0,0))∧xs.length≤c∧c≤maxLen∧off+c≤cur.size ∧
  ∀(j:Nat) (x:Int),xs[j]?=some x→cur[off+j]?=some (.int .i64 x)
section
variable {P:Program} {h:Hp} {w:World} {t T:TypeId} {v:Value} {xs:List Int}
theorem B0.toQ(ho:B0 h w T v xs):aa2 h w T v xs:=by
 rcases ho with hn|⟨b,c,cur,rfl,h1,h2,h3,h4,h5,h6⟩
 ·exact .inl hn
 ·have h5':cur.size=c:=by rw[h5];exact dA7 c
  have h6':cur.toList.take xs.length=L9 xs:=L8.1 (by
   have:xs.length*A3.sz Int=xs.length:=dA7 _;rw[this]at h6;exact h6)
  refine .inr ⟨b,0,c,cur,rfl,h1,h2,h3,h4,by omega,fun j x hj=>?_⟩;have hjl:=(dr4.1 hj).1;have h7:=ds7 (fun l=>l[j]?) h6';simp only[List.getElem?_take_of_lt hjl]at h7;rw[du4];have h8:cur[j]?=cur.toList[j]?:=by simp
  rw[h8,h7];simp[L9,hj]
theorem aa2.isS(ho:aa2 h w T v xs):isS v=true:=by
 rcases ho with⟨rfl,rfl⟩|⟨b,off,c,cur,rfl,_⟩<;>rfl
theorem aa2.vlen(ho:aa2 h w T v xs):vlen v=xs.length:=by
 rcases ho with⟨rfl,rfl⟩|⟨b,off,c,cur,rfl,_⟩<;>rfl
theorem aa2.vcap(ho:aa2 h w T v xs):xs.length≤vcap v:=by
 rcases ho with⟨rfl,rfl⟩|⟨b,off,c,cur,rfl,_,_,h3,_⟩
 ·simp
 ·exact h3
theorem aa2.inS(ho:aa2 h w T v xs){k:Nat}(hk:k<xs.length):inS v k=true:=by
 rcases ho with⟨rfl,rfl⟩|⟨b,off,c,cur,rfl,_⟩
 ·simp at hk
 ·simp[Go.Proofs.YtcbnbgpphippoaaGreat.inS,hk]
theorem aa2.free(ho:aa2 h w T v xs){b:Nat}(hb:A4 v b):h b=none:=by
 rcases ho with⟨rfl,_⟩|⟨b',off,c,cur,rfl,h1,_⟩
 ·exact absurd hb C6
 ·simp[A4,Value.ownBlock]at hb;subst hb;exact h1
theorem aa2.lt(ho:aa2 h w T v xs){b:Nat}(hb:A4 v b):b<w.heap.size:=by
 rcases ho with⟨rfl,_⟩|⟨b',off,c,cur,rfl,h1,h2,_⟩
 ·exact absurd hb C6
 ·simp[A4,Value.ownBlock]at hb;subst hb;exact(dr3.1 h2).1
theorem aa2.mod{M:Nat→Prop}{w':World}(ho:aa2 h w T v xs)(hm:t8 M w w')(hM:∀b,A4 v b→¬M b):aa2 h w' T v xs:=by
 rcases ho with hn|⟨b,off,c,cur,rfl,h1,h2,rest⟩
 ·exact .inl hn
 ·exact .inr ⟨b,off,c,cur,rfl,h1,(hm.block b (dr3.1 h2).1 (hM b rfl)).trans h2,rest⟩
theorem aa2.ext{w':World}(ho:aa2 h w T v xs)(hm:o7 w w'):aa2 h w' T v xs:=ho.mod hm fun _ _=>id
theorem aa2.head{x:Int}{rest:List Int}(ho:aa2 h w T v (x::rest))(ht:H6 P t=false):(Instr.loadAt t (.pointer (some (H2 v 0)))).run P w = .ok (.int .i64 x) w:=by
 rcases ho with⟨_,hx⟩|⟨b,off,c,cur,rfl,h1,h2,h3,h4,h5,h6⟩
 ·cases hx
 ·refine R8 ht ?_;simp only[H2,K0];rw[dy8 w b off cur T (0,0) h2];exact h6 0 x rfl
theorem aa2.tail{x:Int}{rest:List Int}(ho:aa2 h w T v (x::rest)):aa2 h w T (reS v 1 (rest.length+1) 1) rest∧∀b,A4 (reS v 1 (rest.length+1) 1) b↔A4 v b:=by
 rcases ho with⟨_,hx⟩|⟨b,off,c,cur,rfl,h1,h2,h3,h4,h5,h6⟩
 ·cases hx
 ·simp only[dt2]at h3;have hadd:(⟨b,off,none⟩:Addr).add (1*1)=⟨b,off+1,none⟩:=by unfold Addr.add;split<;>simp_all
  by_cases hc:c=1
  ·subst hc;have hr:rest=[]:=List.eq_nil_of_length_eq_zero (by omega);subst hr;refine⟨.inr ⟨b,off,0,cur,rfl,h1,h2,ds5 _,dr8 _,by omega,fun j y hj=>by simp at hj⟩,fun b'=>dy2⟩
  ·refine⟨.inr ⟨b,off+1,c-1,cur,?_,h1,h2,by omega,by omega,by omega,fun j y hj=>?_⟩,fun b'=>?_⟩
   ·simp[reS,hc,hadd]
   ·have:=h6 (j+1) y (by simpa using hj);rw[←this];congr 1;omega
   ·simp[reS,hc,hadd,A4,Value.ownBlock]
theorem aa2.push{e:TypeId}{by_:Nat}(hs:E7 P t T 1 by_=true)(ho:aa2 h w T v xs)(y:Int)
  (hl:xs.length+1≤1000000000000) (hb:(xs.length+1)*by_≤140737488355328) (hw:B5 h (i4 w)) :
  (Instr.buildSlice t 1 #[(0,.int .i64 y)]).run P w = .ok (.slice (some ⟨w.heap.size,0,none⟩) 1 1) (w.alloc (.cells #[.int .i64 y] T)) ∧
  ∃v' w',(Builtin.append_ #[t,t] e #[v,.slice (some ⟨w.heap.size,0,none⟩) 1 1]).run P (w.alloc (.cells #[.int .i64 y] T)) = .ok v' w'∧aa2 h w' T v' (xs++[y])∧t8 (A4 v) w w'∧D7 w v v':=by
 have hnil:=Go.Proofs.YtcbnbgpphippoaaGreat.push (e:=e) (α:=Int) hs rfl (B0.nil h w T) (x:=.int .i64 y) (y:=y) rfl (by simp) (by simp only[dx8,du4]at *;have:=dz4 by_ (show 1≤xs.length+1 by omega);omega) hw;simp only[Value.cells,dB0]at hnil;refine⟨hnil.1,?_⟩;rcases ho with⟨rfl,rfl⟩|⟨b,off,c,cur,rfl,h1,h2,h3,h4,h5,h6⟩
 ·obtain⟨v',w',k1,k2,k3,k4⟩:=hnil.2;exact⟨v',w',k1,by simpa using k2.toQ,k3,k4⟩
 ·obtain⟨s1,⟨z,hz,hzs⟩,s3,s4,s5,s6⟩:=Q0 hs;obtain⟨i,hi,hiz⟩:=A0 hz;rw[C5 hi]at s3;rw[au2 hi]at s4;have ht:=L7 s1;have hxA:=o7.alloc w (.cells #[.int .i64 y] T);have hbl:b<w.heap.size:=(dr3.1 h2).1;have h2':(w.alloc (.cells #[.int .i64 y] T)).heap[b]?=some (.cells cur T (0,0)):=(hxA.block b hbl id).trans h2;have hnews:∀j u,[Value.int .i64 y][j]?=some u→(w.alloc (.cells #[.int .i64 y] T)).cell? ((⟨w.heap.size,0,none⟩:Addr).add j)=some u:=by
   intro j u hj;have ha:(⟨w.heap.size,0,none⟩:Addr).add j=⟨w.heap.size,j,none⟩:=by unfold Addr.add;split<;>simp_all
   rw[ha,dC7];simpa using hj
  generalize hwa:w.alloc (.cells #[.int .i64 y] T)=wa at *;by_cases hroom:xs.length+1≤c
  ·have hr:=run_append_room_cells (P:=P) wa t e T i ht hi b off xs.length c ⟨w.heap.size,0,none⟩ 1 1 [.int .i64 y] (by simp[s3]) hnews (by simp[Value.oneCell']) hroom
    (fun j hj=>by
     simp only[dt2,dx8]at hj;rw[s3,dy8 wa b _ cur T (0,0) h2',dz9 (by omega)];rfl)
    (fun j _=>frozen_of_row wa b _ cur T h2')
   rw[s3,dA7]at hr;simp only[World.setCells]at hr;refine⟨_,_,hr,.inr ⟨b,off,c,cur.setIfInBounds (off+xs.length) (.int .i64 y),by simp,h1,heap_setCell_same wa b (off+xs.length) cur T _ h2',by simpa using hroom,h4,by simpa using h5,fun j x hj=>?_⟩,?_,fun b' hb'=>.inl hb'⟩
   ·rw[Array.getElem?_setIfInBounds];by_cases hjx:j<xs.length
    ·rw[dw2 hjx]at hj;rw[if_neg (by omega)];exact h6 j x hj
    ·rw[dv7 (by omega)]at hj;have hj0:j-xs.length=0:=by
      have:=(dr4.1 hj).1;simp at this;omega
     rw[hj0]at hj;simp at hj;subst hj;rw[if_pos (by omega),if_pos (by omega)]
   ·exact(hxA.weaken fun _ _ h=>h.elim).trans (t8.setCell _ _ _ (by simp[A4,Value.ownBlock]))
  ·have holds:∀j u,((L9 xs))[j]?=some u→wa.cell? ((⟨b,off,none⟩:Addr).add j)=some u:=by
    intro j u hj;have ha:(⟨b,off,none⟩:Addr).add j=⟨b,off+j,none⟩:=by unfold Addr.add;split<;>simp_all
    rw[ha,dy8 wa b (off+j) cur T (0,0) h2'];simp only[L9,du5]at hj;obtain⟨x,k1,k2⟩:=Option.map_eq_some_iff.1 hj;rw[h6 j x k1,←k2]
   have hr:=run_append_grow (P:=P) wa t e T i z ht hi hiz ⟨b,off,none⟩ xs.length c (L9 xs) (by simp[L9,s3]) holds ⟨w.heap.size,0,none⟩ 1 1 [.int .i64 y] (by simp[s3]) hnews (by omega)
    (by omega) (growslice_fits (by omega) (by rw[s4];exact hb))
   have hge:=grownCap_ge wa (xs.length+1) c T;have hcm:=grownCap_le_maxLen wa (xs.length+1) c T (by simp only[maxLen];omega);have hlw:wa.heap.size=w.heap.size+1:=by rw[←hwa];simp
   refine⟨_,_,hr,.inr ⟨wa.heap.size,0,_,_,by simp,ax2 hw (by omega),dv4 wa.drew _,by simpa using hge,hcm,?_,fun j x hj=>?_⟩,?_,fun b' hb'=>?_⟩
   ·simp only[Array.size_append,dA6,size_zeroCells,hzs,L9,dr9,dt2,dx8];omega
   ·rw[du4];have hjl:=(dr4.1 hj).1;simp only[dr1,dt2,dx8]at hjl;have e1:((L9 xs).toArray++#[Value.int .i64 y])=(L9 (xs++[y])).toArray:=by simp[L9]
    have e2:([Value.int .i64 y].toArray)=#[Value.int .i64 y]:=rfl;rw[Array.getElem?_append_left (by simp[L9];omega),e2,e1,List.getElem?_toArray];simp only[L9,du5,hj];rfl
   ·refine(hxA.weaken fun _ _ h=>h.elim).trans ?_;exact t8.trans ((o7.drew wa).weaken (fun _ _ h=>h.elim)) ((o7.alloc wa.drew _).weaken (fun _ _ h=>h.elim))
   ·simp[A4,Value.ownBlock]at hb';exact .inr (by omega)
end
section
variable {P:Program} {h:Hp} {w:World} {t T:TypeId} {v:Value}
theorem aa2.set{xs:List Int}(ho:aa2 h w T v xs){k:Nat}(hk:k<xs.length)(y:Int){inf:TypeInfo}(hinf:P.info? t=some inf)(hs:inf.size=1):
  ∃w',(Instr.storeAt t (.pointer (some (H2 v k))) (.int .i64 y)).run P w = .ok () w'∧aa2 h w' T v (xs.set k y)∧t8 (A4 v) w w':=by
 rcases ho with⟨rfl,rfl⟩|⟨b,off,c,cur,rfl,h1,h2,h3,h4,h5,h6⟩
 ·simp at hk
 ·have ha:(⟨b,off,.none⟩:Addr).add k=⟨b,off+k,.none⟩:=by unfold Addr.add;split<;>simp_all
  obtain⟨w',s1,s2,s3⟩:=aj6 (P:=P) (t:=t) (i:=off+k) (x:=.int .i64 y) h2 (by omega) rfl rfl hinf hs;refine⟨w',by simp only[H2,ha];exact s1,.inr ⟨b,off,c,_,by simp,h1,s2,by simpa using h3,h4,by simpa using h5,fun j x hj=>?_⟩,s3.weaken fun b' _ hb=>by subst hb;rfl⟩;rw[Array.getElem?_setIfInBounds];rw[List.getElem?_set]at hj;by_cases hkj:k=j
  ·subst hkj;rw[if_pos rfl,if_pos hk]at hj;obtain rfl:=ds8 hj;rw[if_pos rfl,if_pos (by omega)]
  ·rw[if_neg hkj]at hj;rw[if_neg (by omega)];exact h6 j x hj
end
structure ST (w0 w:World) (rb gb:Nat) (ui uw vt:Value) (us:List Z3) (ins:List (List W)) (waits:List Bool) (todo:List Int) (T:Int):Prop where
 rows:K9 (i4 w0) w 275 220 ui us ins
 wts:B0 (i4 w0) w 4 uw waits
 q:aa2 (i4 w0) w 3 vt todo
 cg:w.heap[gb]?=some (.cells #[.slice none 0 0,.int .i64 T] 189 (0,0))
 cr:w.heap[rb]?=some (.cells #[.slice none 0 0,.int .i64 0] 189 (0,0))
 d1:∀b,L3 ui us b→¬A4 vt b∧¬A4 uw b∧b≠gb∧b≠rb
 d2:∀b,A4 vt b→¬A4 uw b∧b≠gb∧b≠rb
 d3:∀b,A4 uw b→b≠gb∧b≠rb
 d4:gb≠rb
 ext:o7 w0 w
 fg:w0.heap.size≤gb
 frb:w0.heap.size≤rb
section
variable {w0 w:World} {rb gb:Nat} {ui uw vt:Value} {us:List Z3} {ins:List (List W)} {waits:List Bool} {todo:List Int} {T:Int}
theorem ST.lg(s:ST w0 w rb gb ui uw vt us ins waits todo T):gb<w.heap.size:=(dr3.1 s.cg).1
theorem ST.lr(s:ST w0 w rb gb ui uw vt us ins waits todo T):rb<w.heap.size:=(dr3.1 s.cr).1
theorem ST.ge(s:ST w0 w rb gb ui uw vt us ins waits todo T){b:Nat}(hb:i4 w0 b=none):w0.heap.size≤b:=
 dE1 fun hlt=>by simp[i4,hlt]at hb
theorem ST.more(s:ST w0 w rb gb ui uw vt us ins waits todo T){w':World}(hx:o7 w w'):ST w0 w' rb gb ui uw vt us ins waits todo T:=
 ⟨s.rows.ext hx,s.wts.ext hx,s.q.ext hx,(hx.block gb s.lg id).trans s.cg,(hx.block rb s.lr id).trans s.cr,s.d1,s.d2,s.d3,s.d4,s.ext.trans hx,s.fg,s.frb⟩
theorem ST.wait{P:Program}{t:TypeId}(s:ST w0 w rb gb ui uw vt us ins waits todo T){k:Nat}(hk:k<waits.length)(y:Bool){inf:TypeInfo}(hinf:P.info? t=some inf)(hs:inf.size=1):
  ∃w',(Instr.storeAt t (.pointer (some (H2 uw k))) (.bool y)).run P w = .ok () w'∧ST w0 w' rb gb ui uw vt us ins (waits.set k y) todo T:=by
 obtain⟨w',s1,s2,s3,s4⟩:=D9 (P:=P) (t:=t) s.wts rfl hk (x:=.bool y) (y:=y) rfl rfl hinf hs;refine⟨w',s1,s.rows.mod s3 fun b hb=>(s.d1 b hb).2.1,s2,s.q.mod s3 fun b hb=>(s.d2 b hb).1,(s3.block gb s.lg fun h=>(s.d3 gb h).1 rfl).trans s.cg,(s3.block rb s.lr fun h=>(s.d3 rb h).2 rfl).trans s.cr,s.d1,s.d2,s.d3,s.d4,t8.ext_of s.ext s3 fun b hb=>s.ge (s.wts.free hb),s.fg,s.frb⟩
theorem ST.wait2{P:Program}{t:TypeId}(s:ST w0 w rb gb ui uw vt us ins waits todo T){k:Nat}(hk:k<waits.length)(y:Bool){inf:TypeInfo}(hinf:P.info? t=some inf)(hs:inf.size=1):
  ∃w',(Instr.storeAt t (.pointer (some (H2 uw k))) (.bool y)).run P w = .ok () w'∧ST w0 w' rb gb ui uw vt us ins (waits.set k y) todo T∧t8 (A4 uw) w w':=by
 obtain⟨w',s1,s2,s3,s4⟩:=D9 (P:=P) (t:=t) s.wts rfl hk (x:=.bool y) (y:=y) rfl rfl hinf hs;refine⟨w',s1,⟨s.rows.mod s3 fun b hb=>(s.d1 b hb).2.1,s2,s.q.mod s3 fun b hb=>(s.d2 b hb).1,(s3.block gb s.lg fun h=>(s.d3 gb h).1 rfl).trans s.cg,(s3.block rb s.lr fun h=>(s.d3 rb h).2 rfl).trans s.cr,s.d1,s.d2,s.d3,s.d4,t8.ext_of s.ext s3 fun b hb=>s.ge (s.wts.free hb),s.fg,s.frb⟩,s3⟩
theorem ST.times{P:Program}{t:TypeId}(s:ST w0 w rb gb ui uw vt us ins waits todo T)(T':Int){inf:TypeInfo}(hinf:P.info? t=some inf)(hs:inf.size=1):
  ∃w',(Instr.storeAt t (.pointer (some ⟨gb,1,none⟩)) (.int .i64 T')).run P w = .ok () w'∧ST w0 w' rb gb ui uw vt us ins waits todo T':=by
 obtain⟨w',s1,s2,s3⟩:=aj6 (P:=P) (t:=t) (i:=1) (x:=.int .i64 T') s.cg (by simp) rfl rfl hinf hs;refine⟨w',s1,s.rows.mod s3 fun b hb=>(s.d1 b hb).2.2.1,s.wts.mod s3 fun b hb=>(s.d3 b hb).1,s.q.mod s3 fun b hb=>(s.d2 b hb).2.1,s2,(s3.block rb s.lr fun h=>s.d4 h.symm).trans s.cr,s.d1,s.d2,s.d3,s.d4,t8.ext_of s.ext s3 fun b hb=>by subst hb;exact s.fg,s.fg,s.frb⟩
theorem ST.tail{x:Int}{rest:List Int}(s:ST w0 w rb gb ui uw vt us ins waits (x::rest) T):ST w0 w rb gb ui uw (reS vt 1 (rest.length+1) 1) us ins waits rest T:=by
 obtain⟨h1,h2⟩:=s.q.tail;exact⟨s.rows,s.wts,h1,s.cg,s.cr,fun b hb=>⟨fun h=>(s.d1 b hb).1 ((h2 b).1 h),(s.d1 b hb).2⟩,fun b hb=>s.d2 b ((h2 b).1 hb),s.d3,s.d4,s.ext,s.fg,s.frb⟩
theorem ST.push{P:Program}{t e:TypeId}{by_:Nat}(hsl:E7 P t 3 1 by_=true)(s:ST w0 w rb gb ui uw vt us ins waits todo T)(y:Int)(hl:todo.length+1≤1000000000000)(hb:(todo.length+1)*by_≤140737488355328):
  (Instr.buildSlice t 1 #[(0,.int .i64 y)]).run P w = .ok (.slice (some ⟨w.heap.size,0,none⟩) 1 1) (w.alloc (.cells #[.int .i64 y] 3)) ∧
  ∃v' w',(Builtin.append_ #[t,t] e #[vt,.slice (some ⟨w.heap.size,0,none⟩) 1 1]).run P (w.alloc (.cells #[.int .i64 y] 3)) = .ok v' w'∧ST w0 w' rb gb ui uw v' us ins waits (todo++[y]) T:=by
 obtain⟨h1,v',w',h2,h3,h4,h5⟩:=s.q.push (e:=e) hsl y hl hb (b7 s.ext);refine⟨h1,v',w',h2,s.rows.mod h4 fun b hb=>(s.d1 b hb).1,s.wts.mod h4 fun b hb hb2=>(s.d2 b hb2).1 hb,h3,(h4.block gb s.lg fun h=>(s.d2 gb h).2.1 rfl).trans s.cg,(h4.block rb s.lr fun h=>(s.d2 rb h).2.2 rfl).trans s.cr,fun b hb=>⟨fun h=>?_,(s.d1 b hb).2⟩,fun b hb=>?_,s.d3,s.d4,t8.ext_of s.ext h4 fun b hb=>s.ge (s.q.free hb),s.fg,s.frb⟩
 ·rcases h5 b h with h|h
  ·exact(s.d1 b hb).1 h
  ·have:=s.rows.lt hb;omega
 ·rcases h5 b hb with h|h
  ·exact s.d2 b h
  ·exact⟨fun hh=>by have:=s.wts.lt hh;omega,by have:=s.lg;omega,by have:=s.lr;omega⟩
theorem ST.push2{P:Program}{t e:TypeId}{by_:Nat}(hsl:E7 P t 3 1 by_=true)(s:ST w0 w rb gb ui uw vt us ins waits todo T)(y:Int)(hl:todo.length+1≤1000000000000)(hb:(todo.length+1)*by_≤140737488355328):
  (Instr.buildSlice t 1 #[(0,.int .i64 y)]).run P w = .ok (.slice (some ⟨w.heap.size,0,none⟩) 1 1) (w.alloc (.cells #[.int .i64 y] 3)) ∧
  ∃v' w',(Builtin.append_ #[t,t] e #[vt,.slice (some ⟨w.heap.size,0,none⟩) 1 1]).run P (w.alloc (.cells #[.int .i64 y] 3)) = .ok v' w'∧ST w0 w' rb gb ui uw v' us ins waits (todo++[y]) T∧t8 (A4 vt) w w'∧D7 w vt v':=by
 obtain⟨h1,v',w',h2,h3,h4,h5⟩:=s.q.push (e:=e) hsl y hl hb (b7 s.ext);refine⟨h1,v',w',h2,⟨s.rows.mod h4 fun b hb=>(s.d1 b hb).1,s.wts.mod h4 fun b hb hb2=>(s.d2 b hb2).1 hb,h3,(h4.block gb s.lg fun h=>(s.d2 gb h).2.1 rfl).trans s.cg,(h4.block rb s.lr fun h=>(s.d2 rb h).2.2 rfl).trans s.cr,fun b hb=>⟨fun h=>?_,(s.d1 b hb).2⟩,fun b hb=>?_,s.d3,s.d4,t8.ext_of s.ext h4 fun b hb=>s.ge (s.q.free hb),s.fg,s.frb⟩,h4,h5⟩
 ·rcases h5 b h with h|h
  ·exact(s.d1 b hb).1 h
  ·have:=s.rows.lt hb;omega
 ·rcases h5 b hb with h|h
  ·exact s.d2 b h
  ·exact⟨fun hh=>by have:=s.wts.lt hh;omega,by have:=s.lg;omega,by have:=s.lr;omega⟩
theorem ST.row(s:ST w0 w rb gb ui uw vt us ins waits todo T){w':World}{i:Nat}{u:Z3}(hi:us[i]?=some u){r:List W}(hm:t8 (A4 u.v) w w')(ho:B0 (i4 w0) w' 220 u.v r):ST w0 w' rb gb ui uw vt us (ins.set i r) waits todo T:=by
 have hu:∀b,A4 u.v b→L3 ui us b:=fun b hb=>.inr ⟨u,ds9 hi,hb⟩;exact⟨s.rows.write hi hm ho,s.wts.mod hm fun b hb hb2=>(s.d1 b (hu b hb2)).2.1 hb,s.q.mod hm fun b hb hb2=>(s.d1 b (hu b hb2)).1 hb,(hm.block gb s.lg fun h=>(s.d1 gb (hu gb h)).2.2.1 rfl).trans s.cg,(hm.block rb s.lr fun h=>(s.d1 rb (hu rb h)).2.2.2 rfl).trans s.cr,s.d1,s.d2,s.d3,s.d4,t8.ext_of s.ext hm fun b hb=>s.ge (s.rows.free (hu b hb)),s.fg,s.frb⟩
theorem ST.put{P:Program}{t:TypeId}(s:ST w0 w rb gb ui uw vt us ins waits todo T){w1:World}(hx:o7 w w1){i:Nat}{u:Z3}(hi:us[i]?=some u){u':Value}{r:List W}(ho:B0 (i4 w0) w1 220 u' r)(hf:∀b,A4 u' b→w.heap.size≤b){inf:TypeInfo}(hinf:P.info? t=some inf)(hs:inf.size=1):
  ∃w2,(Instr.storeAt t (.pointer (some (H2 ui i))) u').run P w1 = .ok () w2∧ST w0 w2 rb gb ui uw vt (us.set i ⟨u'⟩) (ins.set i r) waits todo T:=by
 obtain⟨w2,s1,s2,s3,s4⟩:=s.rows.put (P:=P) (t:=t) hi (hx.weaken fun _ _ h=>h.elim) ho (fun b hb=>.inr (hf b hb)) hinf hs;have hv:∀b,A4 ui b→L3 ui us b:=fun b hb=>.inl hb;have s':=s.more hx;refine⟨w2,s1,s2,s'.wts.mod s3 fun b hb hb2=>(s.d1 b (hv b hb2)).2.1 hb,s'.q.mod s3 fun b hb hb2=>(s.d1 b (hv b hb2)).1 hb,(s3.block gb s'.lg fun h=>(s.d1 gb (hv gb h)).2.2.1 rfl).trans s'.cg,(s3.block rb s'.lr fun h=>(s.d1 rb (hv rb h)).2.2.2 rfl).trans s'.cr,fun b hb=>?_,s.d2,s.d3,s.d4,t8.ext_of s'.ext s3 fun b hb=>s.ge (s.rows.free (hv b hb)),s.fg,s.frb⟩;rcases hb with hb|⟨x,hx',hb⟩
 ·exact s.d1 b (.inl hb)
 ·rcases dz1 hx' with h|h
  ·exact s.d1 b (.inr ⟨x,h,hb⟩)
  ·subst h;have h9:=hf b hb;exact⟨fun hh=>by have:=s.q.lt hh;omega,fun hh=>by have:=s.wts.lt hh;omega,by have:=s.lg;omega,by have:=s.lr;omega⟩
theorem ST.qset{P:Program}{t:TypeId}(s:ST w0 w rb gb ui uw vt us ins waits todo T){k:Nat}(hk:k<todo.length)(y:Int){inf:TypeInfo}(hinf:P.info? t=some inf)(hs:inf.size=1):
  ∃w',(Instr.storeAt t (.pointer (some (H2 vt k))) (.int .i64 y)).run P w = .ok () w'∧ST w0 w' rb gb ui uw vt us ins waits (todo.set k y) T:=by
 obtain⟨w',h1,h3,h4⟩:=s.q.set (P:=P) (t:=t) hk y hinf hs;exact⟨w',h1,s.rows.mod h4 fun b hb=>(s.d1 b hb).1,s.wts.mod h4 fun b hb hb2=>(s.d2 b hb2).1 hb,h3,(h4.block gb s.lg fun h=>(s.d2 gb h).2.1 rfl).trans s.cg,(h4.block rb s.lr fun h=>(s.d2 rb h).2.2 rfl).trans s.cr,s.d1,s.d2,s.d3,s.d4,t8.ext_of s.ext h4 fun b hb=>s.ge (s.q.free hb),s.fg,s.frb⟩
end
theorem br4(w:World):(Instr.alloc 189 true (.tuple #[])).run prog w = .ok (.pointer (some ⟨w.heap.size,0,none⟩)) (w.alloc (.cells #[.slice none 0 0,.int .i64 0] 189)):=
 (aJ7 (P:=prog) (T:=189) aX7 (by rw[ae3];rfl) (cs:=#[.slice none 0 0,.int .i64 0]) (by rw[ae3];rfl) (by simp[Value.oneCell'])).1
def goW(g r k:List W)(i:Nat):W:=g.getD i 0#64 ||| (r.getD i 0#64 &&& ~~~(k.getD i 0#64))
def Y7(g r k:List W)(m i:Nat):List W:=(List.range m).map fun j=>if j<i then goW g r k j else 0#64
theorem bH0(g r k:List W)(m:Nat):Y7 g r k m 0=List.replicate m 0#64:=by
 unfold Y7;apply dy6 (by simp);intro i h1 h2;simp
theorem ap4(g r k:List W)(m i:Nat):(Y7 g r k m i).length=m:=by simp[Y7]
theorem bi5(g r k:List W)(m i j:Nat):(Y7 g r k m i)[j]?=if j<m then some (if j<i then goW g r k j else 0#64)else none:=by
 unfold Y7;rw[du5];by_cases hj:j<m
 ·rw[dz8 hj,if_pos hj];rfl
 ·rw[dy9 (by simp;omega),if_neg hj];rfl
theorem bG9(g r k:List W){m i:Nat}(hi:i<m):(Y7 g r k m i).set i (goW g r k i)=Y7 g r k m (i+1):=by
 apply dD7;intro j;rw[List.getElem?_set,bi5,bi5,ap4];by_cases e:i=j
 ·subst e;rw[if_pos rfl,if_pos hi,if_pos hi,if_pos (by omega)]
 ·rw[if_neg e];by_cases h3:j<i
  ·rw[if_pos h3,if_pos (show j<i+1 by omega)]
  ·rw[if_neg h3,if_neg (show ¬j<i+1 by omega)]
theorem bR3(g r k:List W){m:Nat}(hg:g.length=m)(hr:r.length=m)(hk:k.length=m)(f:Nat):O1 (Y7 g r k m m) f=(O1 g f||(O1 r f && !O1 k f)):=by
 unfold O1;by_cases hi:f / 64<m
 ·have h1:(Y7 g r k m m).getD (f / 64) 0#64=goW g r k (f / 64):=by
   unfold Y7;simp only[List.getD,du5,dz8 hi,dx7,dw8];rw[if_pos hi]
  rw[h1];unfold goW;rw[BitVec.getLsbD_or,BitVec.getLsbD_and,BitVec.getLsbD_not];have:f % 64<64:=Nat.mod_lt _ (by decide);simp[this]
 ·have h0:∀l:List W,l.length=m→l.getD (f / 64) 0#64=0#64:=fun l hl=>by
   simp only[List.getD];rw[dy9 (by omega)];rfl
  rw[h0 _ (ap4 g r k m m),h0 g hg,h0 r hr];simp
theorem ST.ge'{w0 w:World}{rb gb:Nat}{ui uw vt:Value}{us:List Z3}{ins:List (List W)}{waits:List Bool}{todo:List Int}{T:Int}(s:ST w0 w rb gb ui uw vt us ins waits todo T){w1:World}{b:Nat}(hb:i4 w1 b=none):w1.heap.size≤b:=
 dE1 fun hlt=>by simp[i4,hlt]at hb
theorem cn7(pg:Value)(nx pv:List (List Int))(vg vk:Value)(gs ks:List (List W))(gl kl:List (List Int))(most:Nat)(w:World)
  (hgr:GR (i4 w) pg nx pv) (hgg:aB6 nx.length (nx,pv)) (hvg:R (i4 w) vg gs) (hvk:R (i4 w) vk ks) (hsg:cp7 most gl gs) (hsk:cp7 most kl ks) (hgn:gl.length=nx.length) (hkn:kl.length=nx.length) (hfg:aO6 gl most) (hn5:nx.length≤5000) (hm5:most≤5000) :
  p7 prog 198 #[pg,vg,vk,.int .i64 most] w fun u w'=>((∃vi sol T,u = .agg #[vi,.int .i64 (T:Nat)]∧R (B7 w' (fun b=>b<w.heap.size)) vi sol∧sol.length=nx.length∧(∀b,H1 nx.length b=true→∃f:Nat→Bool,C1 sol b=((List.range most).filter f).map (fun(i:Nat)=>(i:Int))∧∀i,f i=true↔at6 nx gl kl b i)∧nx.length≤T∧T≤nx.length+nx.length*most)∧o7 w w'):=by
 refine p8 [pg,vg,vk,.int .i64 most] func198 rfl ?_;have hal:=br4;simp only[H5,zVB,simprocAttr,hal];have c1:(w.alloc (.cells #[.slice none 0 0,.int .i64 0] 189)).heap[w.heap.size]?=some (.cells #[.slice none 0 0,.int .i64 0] 189 (0,0)):=dv4 w _;have x1:=o7.alloc w (.cells #[.slice none 0 0,.int .i64 0] 189);have sz1:(w.alloc (.cells #[.slice none 0 0,.int .i64 0] 189)).heap.size=w.heap.size+1:=by simp
 generalize w.alloc (.cells #[.slice none 0 0,.int .i64 0] 189)=w1 at *;have c2:(w1.alloc (.cells #[.slice none 0 0,.int .i64 0] 189)).heap[w1.heap.size]?=some (.cells #[.slice none 0 0,.int .i64 0] 189 (0,0)):=dv4 w1 _;have x2:=o7.alloc w1 (.cells #[.slice none 0 0,.int .i64 0] 189);have sz2:(w1.alloc (.cells #[.slice none 0 0,.int .i64 0] 189)).heap.size=w1.heap.size+1:=by simp
 generalize w1.alloc (.cells #[.slice none 0 0,.int .i64 0] 189)=w2 at *;have x02:=x1.trans x2;have hgr2:=hgr.mono (b7 x02);refine z7 (cF2 pg nx pv w2 hgr2) ?_;rintro u w2' ⟨hu,hw2⟩;subst hw2;subst hu;have hz:A3.enc (i4 w) (Value.slice none 0 0).cells.toList E1:=⟨rfl,rfl⟩;obtain⟨ui,w3,m1,o1,x3,f1,s1⟩:=mk (P:=prog) (w:=w2') (h:=i4 w) cP4 aX8 (α:=Z3) (y:=E1) hz (n:=nx.length) (by omega) (by omega) (b7 x02);obtain⟨ut,w4,m2,o2,x4,f2,s2⟩:=mk (P:=prog) (w:=w3) (h:=i4 w) ae1 az5 (α:=Int) (y:=0) rfl (n:=nx.length) (by omega) (by omega) (b7 (x02.trans x3));obtain⟨uw,w5,m3,o3,x5,f3,s3⟩:=mk (P:=prog) (w:=w4) (h:=i4 w) bq9 U1 (α:=Bool) (y:=false) rfl (n:=nx.length) (by omega) (by omega) (b7 ((x02.trans x3).trans x4));have x35:=(x3.trans x4).trans x5;have l1:w.heap.size<w2'.heap.size:=by omega
 have l2:w1.heap.size<w2'.heap.size:=by omega
 have hcr:w5.heap[w.heap.size]?=some (.cells #[.slice none 0 0,.int .i64 0] 189 (0,0)):=(x35.block _ l1 id).trans ((x2.block _ (by omega) id).trans c1);have hcg:w5.heap[w1.heap.size]?=some (.cells #[.slice none 0 0,.int .i64 0] 189 (0,0)):=(x35.block _ l2 id).trans c2;have st0:ST w w5 w.heap.size w1.heap.size ui uw ut (List.replicate nx.length E1) (List.replicate nx.length []) (List.replicate nx.length false) (List.replicate nx.length 0) 0:=by
  refine⟨an5 ((o1.ext x4).ext x5),o3,(o2.ext x5).toQ,hcg,hcr,fun b hb=>?_,fun b hb=>⟨fun h=>?_,?_,?_⟩,fun b hb=>⟨?_,?_⟩,by omega,((x02.trans x3).trans x4).trans x5,by omega,ds5 _⟩
  ·have hb':=aF1 hb;have k1:=f1 b hb';have k2:=o1.lt hb';exact⟨fun h=>by have:=f2 b h;omega,fun h=>by have:=f3 b h;omega,by omega,by omega⟩
  ·have:=o2.lt hb;have:=f3 b h;omega
  ·have:=f2 b hb;omega
  ·have:=f2 b hb;omega
  ·have:=f3 b hb;omega
  ·have:=f3 b hb;omega
 have Si:=o1.isS;have ni:=o1.vlen;rw[dv9]at ni;have hgood:=hgg.nx;generalize hrb:w.heap.size=rb at *;generalize hgb:w1.heap.size=gb at *;have q1:=by8 (P:=prog) (t:=3) most (by omega);have q2:B6 prog .add 3 (.int .i64 ((most / 64:Nat):Int)) (.int .i64 1)=some (.int .i64 ((most / 64+1:Nat):Int)):=by
  simp only[B6,E5,dx1];rw[A8 _ (by omega)]
 have hm64:most / 64+1≤100:=by omega
 obtain⟨hsg1,hsg2⟩:=hsg;obtain⟨hsk1,hsk2⟩:=hsk;generalize hmm:most / 64+1=m at *;generalize hm6:most / 64=m6 at *;simp only[H5,O2,P9,simprocAttr,m1,m2,m3,Si,ni];refine n9 [0,1,2,3,8,9,10,11,12,13,29,30] (σ:=Nat) (fun k f w'=>f 31 = .int .i64 k∧k≤nx.length∧∃us ins waits todo,ST w w' rb gb ui uw ut us ins waits todo 0∧ins.length=nx.length∧waits.length=nx.length∧todo.length=nx.length∧∀j:Nat,j<k→ins[j]?=some (List.replicate m 0#64)∧waits[j]?=some true∧todo[j]?=some (j:Int)) (fun k=>nx.length-k) 0 ?_ ?_
 ·simp only[p6,simprocAttr];exact⟨by first|rfl|trivial,dr8 _,_,_,_,_,st0,by simp,by simp,by simp,fun j hj=>by omega⟩
 ·rintro k f w6 hk ⟨h31,hkl,us,ins,waits,todo,st,li,lw,lt,hdone⟩;simp only[dq9,p6,simprocAttr]at hk;obtain⟨e0,e1,e2,e3,e8,e9,e10,e11,e12,e13,e29,e30,_⟩:=hk;simp only[H5,B6,E5,simprocAttr,h31,e30];refine m8 (fun hc=>?_) (fun hc=>?_)
  ·have hlt:k<nx.length:=by simpa using hc
   have q6:B6 prog .add 3 (.int .i64 k) (.int .i64 1)=some (.int .i64 ((k+1:Nat):Int)):=by
    simp only[B6,E5,dx1];rw[A8 k (by omega)]
   obtain⟨ur,w7,m4,o4,x7,f4,s4⟩:=mk (P:=prog) (w:=w6) (h:=i4 w) cT6 az4 (α:=W) (y:=0#64) rfl (n:=m) (by omega) (by omega) (b7 st.ext);have lus:us.length=nx.length:=by rw[st.rows.len,li]
   have hui:us[k]?=some (us[k]'(by omega)):=dq7 _;generalize us[k]'(by omega)=u at hui;obtain⟨w8,t1,st1⟩:=st.put (P:=prog) (t:=275) x7 hui o4 f4 (A0 aX8).choose_spec.1 (by rw[←C5 (A0 aX8).choose_spec.1];exact bW4);obtain⟨w9,t2,st2⟩:=st1.qset (P:=prog) (t:=3) (k:=k) (by omega) (k:Int) (A0 az5).choose_spec.1 (by rw[←C5 (A0 az5).choose_spec.1];exact aS8);obtain⟨w10,t3,st3⟩:=st2.wait (P:=prog) (t:=4) (k:=k) (by omega) true (A0 U1).choose_spec.1 (by rw[←C5 (A0 U1).choose_spec.1];exact aF6);have in1:=st.rows.outer.inS (k:=k) (by omega);have in2:=st.q.inS (k:=k) (by omega);have in3:=st.wts.inS (k:=k) (by omega);simp only[H5,zVB,z6,simprocAttr,h31,e11,e12,e13,e3,q1,q2,m4,in1,in2,in3,t1,t2,t3,q6];refine⟨k+1,by omega,by trivial,by omega,_,_,_,_,st3,by simp[li],by simp[lw],by simp[lt],fun j hj=>?_⟩;by_cases hjk:j=k
   ·subst hjk;exact⟨dx3 (by omega),dx3 (by omega),dx3 (by omega)⟩
   ·rw[dz2 (fun e=>hjk e.symm),dz2 (fun e=>hjk e.symm),dz2 (fun e=>hjk e.symm)];exact hdone j (by omega)
  ·have hge:k=nx.length:=by simp at hc;omega
   subst hge;have hins:ins=List.replicate nx.length (List.replicate m 0#64):=by
    apply dy6 (by simp[li]);intro j h1 h2;have:=(hdone j (by omega)).1;rw[dq7 h1]at this;simpa using this
   have hwts:waits=List.replicate nx.length true:=by
    apply dy6 (by simp[lw]);intro j h1 h2;have:=(hdone j (by omega)).2.1;rw[dq7 h1]at this;simpa using this
   have htd:todo=(List.range nx.length).map fun(i:Nat)=>(i:Int):=by
    apply dy6 (by simp[lt]);intro j h1 h2;have:=(hdone j (by omega)).2.2;rw[dq7 h1]at this;simpa using this
   have si0:SI nx gl kl most ins todo waits 0:=by
    refine SI.start (by rw[hins,←hmm,←hm6]) (fun a=>?_) ?_ lt hwts
    ·rw[htd,dt7,C3];constructor
     ·rintro⟨i,hi,rfl⟩;have:=dv0.1 hi;omega
     ·rintro⟨h1,h2⟩;exact⟨a.toNat,dv0.2 (by omega),by omega⟩
    ·rw[htd];refine List.Pairwise.map _ (fun a b h=>?_) (List.nodup_range (n:=nx.length));omega
   simp only[H5,simprocAttr];clear hdone hins hwts htd li lw lt st0;have q3:∀T:Nat,T≤100000000→B6 prog .add 3 (.int .i64 (T:Int)) (.int .i64 1)=some (.int .i64 ((T+1:Nat):Int)):=fun T hT=>by
    simp only[B6,E5,dx1];rw[A8 T (by omega)]
   refine n9 [0,1,2,3,8,9,10,11,13] (σ:=List (List W)×List Int) (fun s f w'=>∃waits T,ST w w' rb gb ui uw (f 12) us s.1 waits s.2 (T:Nat)∧SI nx gl kl most s.1 s.2 waits T) (fun s=>cN9 nx.length most s.1 s.2) (ins,todo) ?_ ?_
   ·simp only[p6,simprocAttr];simp only[e12];exact⟨waits,0,st,si0⟩
   ·clear st si0 ins waits todo;rintro⟨ins,todo⟩ f w7 hk ⟨waits,T,st,si⟩;simp only[dq9,p6,simprocAttr]at hk;simp only[e0,e1,e2,e3,e8,e9,e10,e11,e13]at hk;obtain⟨i0,i1,i2,i3,i8,i9,i10,i11,i13,_⟩:=hk;simp only at st si;generalize hvt:f 12=vt at *;have Sq:=st.q.isS;have nq:=st.q.vlen;have hpl:=aQ7 most ins;rw[si.ilen]at hpl;have hnm:nx.length*most≤25000000:=dr7 (Nat.mul_le_mul hn5 hm5) (by decide);have hfew:=si.few;simp only[H5,O2,B6,E5,P9,simprocAttr,hvt,Sq,nq];refine m8 (fun hc=>?_) (fun hc=>?_)
    ·have hpos:0<todo.length:=by simpa using hc
     obtain⟨a,rest,rfl⟩:∃a rest,todo=a::rest:=by
      cases todo with
      | nil=>simp at hpos
      | cons a rest=>exact⟨a,rest,rfl⟩
     have hka:H1 nx.length a=true:=si.ok a (by simp);have hka':=C3.1 hka;have d0:decide (0≤a)=true:=by simpa using hka'.1
     have inq:=st.q.inS (k:=0) (by simp);have ldq:=st.q.head (P:=prog) (t:=3) F3;have hvc:=st.q.vcap;have d1:decide ((1:Int)≤(((a::rest).length:Nat):Int))=true:=by simp;omega
     have d2:decide ((((a::rest).length:Nat):Int)≤(vcap vt:Int))=true:=by
      have h9:=hvc;simp only[dt2]at h9 ⊢;simp;omega
     have st1:=st.tail;have hlr:(a::rest).length=rest.length+1:=rfl;rw[hlr]at nq d1 d2;obtain⟨w8,t2,st2⟩:=st1.wait (P:=prog) (t:=4) (k:=a.toNat) (by rw[si.wlen];omega) false (A0 U1).choose_spec.1 (by rw[←C5 (A0 U1).choose_spec.1];exact aF6);have inw:=st.wts.inS (k:=a.toNat) (by rw[si.wlen];omega);have ldT:=E9 (P:=prog) (t:=3) (i:=1) (u:=.int .i64 (T:Int)) st2.cg rfl F3;have hTle:T≤100000000:=by simp only[dt2]at hfew;omega
     have qT:=q3 T hTle;obtain⟨w9,t3,st3⟩:=st2.times (P:=prog) (t:=3) ((T+1:Nat):Int) (A0 az5).choose_spec.1 (by rw[←C5 (A0 az5).choose_spec.1];exact aS8);obtain⟨ug,w10,m4,o4,x10,f4,s4⟩:=mk (P:=prog) (w:=w9) (h:=i4 w9) cT6 az4 (α:=W) (y:=0#64) rfl (n:=m) (by omega) (by omega) (d7 _);have st4:=st3.more x10;have Sg:=o4.isS;have ng:=o4.vlen;rw[dv9]at ng;generalize hrl:rest.length+1=rl at *;generalize hvt2:reS vt 1 rl 1=vt2 at *;generalize hT1:((T+1:Nat):Int)=T1 at *;simp only[H5,zVB,z6,I0,P9,simprocAttr,hvt,Sq,nq,inq,ldq,d1,d2,hvt2,i13,inw,d0,t2,i9,ldT,qT,t3,i3,q1,q2,m4,Sg,ng];have hal:a.toNat<nx.length:=by omega
     have hgla:gl[a.toNat]?=some (C1 gl a):=(al9 (nx:=gl) (by rw[hgn];exact hka)).1;have hkla:kl[a.toNat]?=some (C1 kl a):=(al9 (nx:=kl) (by rw[hkn];exact hka)).1;obtain⟨g,hg1,hg2,hg3⟩:=hsg2 _ _ hgla;obtain⟨kk,hk1,hk2,hk3⟩:=hsk2 _ _ hkla;rw[hm6,hmm]at hg2 hk2;obtain⟨xg,hxg,hcg'⟩:=hvg.row hg1;obtain⟨xk,hxk,hck'⟩:=hvk.row hk1;have hra:=ai0 si.ilen hka;have hrl2:(wAt ins a).length=m:=by rw[←hmm,←hm6];exact si.rlen _ (ds9 hra)
     have lus:us.length=nx.length:=by rw[st.rows.len,si.ilen]
     have hua:us[a.toNat]?=some (us[a.toNat]'(by omega)):=dq7 _;generalize us[a.toNat]'(by omega)=ua at hua;have ing:=hvg.inS (k:=a.toNat) (by rw[hsg1,hgn];exact hal);have ink:=hvk.inS (k:=a.toNat) (by rw[hsk1,hkn];exact hal);have inr:=st.rows.outer.inS (k:=a.toNat) (by omega);have hgoes:=bR3 g (wAt ins a) kk hg2 hrl2 hk2;refine n9 [0,1,2,3,8,9,10,11,12,13,15,16,68,69] (σ:=Nat) (fun i f w'=>f 70 = .int .i64 i∧i≤m∧B0 (i4 w9) w' 220 ug (Y7 g (wAt ins a) kk m i)∧o7 w9 w') (fun i=>m-i) 0 ?_ ?_
     ·simp only[p6,simprocAttr];exact⟨by first|rfl|trivial,dr8 _,by rw[bH0];exact o4,x10⟩
     ·rintro i f w11 hk ⟨h70,him,hog,hx11⟩;simp only[dq9,p6,simprocAttr]at hk;simp only[i0,i1,i2,i3,i8,i9,i10,i11,i13]at hk;obtain⟨j0,j1,j2,j3,j8,j9,j10,j11,j12,j13,j15,j16,j68,j69,_⟩:=hk;simp only[H5,B6,E5,simprocAttr,h70,j69];refine m8 (fun hc=>?_) (fun hc=>?_)
      ·have hit:i<m:=by simpa using hc
       have q6:B6 prog .add 3 (.int .i64 i) (.int .i64 1)=some (.int .i64 ((i+1:Nat):Int)):=by
        simp only[B6,E5,dx1];rw[A8 i (by omega)]
       have hd:=o7.drew w11;have st11:=(st3.more hx11).more hd;have hld1:=G1 (P:=prog) (t:=275) hcg' (b7 st11.ext) aX5;have hld2:=G1 (P:=prog) (t:=275) hck' (b7 st11.ext) aX5;have hld3:=aI2 (P:=prog) (t:=275) st11.rows hua aX5;have hrow:=st11.rows.row _ _ _ hua hra;have v1:=M8 (P:=prog) (t:=220) hxg (b7 st11.ext) (aY2 (show i<g.length by omega)) ak0;have v2:=M8 (P:=prog) (t:=220) hxk (b7 st11.ext) (aY2 (show i<kk.length by omega)) ak0;have v3:=D4 (P:=prog) (t:=220) hrow (aY2 (show i<(wAt ins a).length by omega)) ak0;have y1:=hxg.inS (k:=i) (by omega);have y2:=hxk.inS (k:=i) (by omega);have y3:=hrow.inS (k:=i) (by omega);have hgw:goW g (wAt ins a) kk i=g.getD i 0#64 ||| ((wAt ins a).getD i 0#64 &&& ~~~(kk.getD i 0#64)):=rfl;have hsu:=bG9 g (wAt ins a) kk hit;rw[hgw]at hsu;simp only[I8.val]at v1 v2 v3;generalize g.getD i 0#64=gi at *;generalize(wAt ins a).getD i 0#64=ri at *;generalize kk.getD i 0#64=ki at *;have b1:=br8 (P:=prog) (t:=220) ri ki;have b2:=cs3 (P:=prog) (t:=220) gi (ri &&& ~~~ki);have ingi:=hog.inS (k:=i) (by rw[ap4];exact hit);obtain⟨w12,t4,o5,m5,_⟩:=D9 (P:=prog) (t:=220) (hog.ext hd) rfl (k:=i) (by rw[ap4];exact hit) (x:=.int .u64 (((gi ||| (ri &&& ~~~ki)).toNat:Nat):Int)) (y:=(gi ||| (ri &&& ~~~ki))) rfl rfl (A0 az4).choose_spec.1 (by rw[←C5 (A0 az4).choose_spec.1];exact bC8);rw[hsu]at o5;simp only[H5,simprocAttr,h70];refine C0 (fun w3=>w3=w11.drew) 25 (A9 [0,1,2,3,4,5,6,7,8,9,10,11,12,13,14,15,16,17,18,19,20,21,22,23,24]) ?_;simp only[D2,A9,H5,zVB,z6,simprocAttr,j16,j1,j15,d0,ing];refine⟨xg,fun w3 e=>by subst e;exact hld1,?_⟩;simp only[D2,H5,zVB,z6,simprocAttr,y1];refine⟨.int .u64 (gi.toNat:Nat),fun w3 e=>by subst e;exact v1,?_⟩;simp only[D2,H5,zVB,z6,simprocAttr,j11,j15,d0,inr];refine⟨ua.v,fun w3 e=>by subst e;exact hld3,?_⟩;simp only[D2,H5,zVB,z6,simprocAttr,y3];refine⟨.int .u64 (ri.toNat:Nat),fun w3 e=>by subst e;exact v3,?_⟩;simp only[D2,H5,zVB,z6,simprocAttr,j2,j15,d0,ink];refine⟨xk,fun w3 e=>by subst e;exact hld2,?_⟩;simp only[D2,H5,zVB,z6,simprocAttr,y2];refine⟨.int .u64 (ki.toNat:Nat),fun w3 e=>by subst e;exact v2,?_⟩;simp only[D2,H5,zVB,z6,simprocAttr,b1,b2,ingi,t4,h70,q6];exact⟨i+1,by omega,by trivial,by omega,o5,(hog.ext hd).ext2 (hx11.trans hd) m5⟩
      ·have hge2:i=m:=by simp at hc;omega
       subst hge2;clear hua ing ink inr hxg hxk hcg' hck';have hgB:∀f,O1 (Y7 g (wAt ins a) kk i i) f=true↔bD8 gl kl ins a f:=by
        intro f;rw[hgoes f,dD2,dt0,Bool.not_eq_true',hg3 f];have h8:=hk3 f;unfold bD8 ai7;constructor
        ·rintro(h|⟨h9,h10⟩)
         ·exact .inl h
         ·exact .inr ⟨h9,fun h11=>by rw[h8.2 h11]at h10;cases h10⟩
        ·rintro(h|⟨h9,h10⟩)
         ·exact .inl h
         ·refine .inr ⟨h9,?_⟩;cases e:O1 kk f
          ·rfl
          ·exact absurd (h8.1 e) h10
       have hgs':∀f,O1 (Y7 g (wAt ins a) kk i i) f=true→f<most∧∀b∈C1 nx a,at6 nx gl kl b f:=by
        intro f hf;rcases(hgB f).1 hf with h|⟨h1,h2⟩
        ·refine⟨?_,fun b hb=>.gen hb h⟩;have:=hfg _ (aq4 (nx:=gl) (by rw[hgn];exact hka)) _ h;omega
        ·exact⟨si.low a f hka h1,fun b hb=>.step hb (si.sound a f hka h1) h2⟩
       have hglen:(Y7 g (wAt ins a) kk i i).length=most / 64+1:=by rw[ap4,hm6,hmm]
       have sj0:=si.pop hgB;have st11:=st3.more hx11;have hog0:=hog.down (b7 st3.ext);have hgr11:=hgr.mono (b7 st11.ext);have hfo:∀b,A4 ug b→w9.heap.size≤b:=fun b hb=>f4 b hb;generalize Y7 g (wAt ins a) kk i i=gw at *;simp only[H5,simprocAttr,j0,j15];refine z7 (cp3 pg nx pv a w11 hgr11 (by rw[hgg.pv.len]) (fun x hx=>dr7 (hgood.row_len hx) (by omega))) ?_;rintro un w12 ⟨hon,hx12⟩;have Sn:=hon.isS;have nn:=hon.vlen;have st12:=st11.more hx12;have hog12:=hog0.ext hx12;have hon0:=hon.down (b7 st11.ext);have hfn:∀b,A4 un b→w11.heap.size≤b:=fun b hb=>st12.ge' (hon.free hb);have hrowlen:(C1 nx a).length≤nx.length:=hgood.rowlen a;simp only[H5,O2,P9,simprocAttr,Sn,nn];refine n9 [0,1,2,3,8,9,10,11,13,15,16,102,103] (σ:=Nat) (fun k f w'=>f 104 = .int .i64 k∧k≤(C1 nx a).length∧∃ins' todo' waits',ST w w' rb gb ui uw (f 12) us ins' waits' todo' T1∧SJ nx gl kl most a gw k ins' todo' waits' (T+1)∧todo'.length+aE7 most ins≤rest.length+aE7 most ins'∧t8 (fun b=>L3 ui us b∨A4 uw b∨A4 vt2 b∨w12.heap.size≤b) w12 w'∧∀b,A4 (f 12) b→A4 vt2 b∨w12.heap.size≤b) (fun k=>(C1 nx a).length-k) 0 ?_ ?_
       ·simp only[p6,simprocAttr];simp only[j12];exact⟨by trivial,dr8 _,ins,rest,_,st12,sj0,ds5 _,t8.refl _,fun b hb=>.inl hb⟩
       ·rintro k f w13 hk ⟨h104,hkl,ins',todo',waits',st',sj,hpot,hmod,hq12⟩;simp only[dq9,p6,simprocAttr]at hk;simp only[j0,j1,j2,j3,j8,j9,j10,j11,j13,j15,j16]at hk;obtain⟨k0,k1,k2,k3,k8,k9,k10,k11,k13,k15,k16,k102,k103,_⟩:=hk;generalize hvk12:f 12=vk12 at *;simp only[H5,B6,E5,simprocAttr,h104,k103];refine m8 (fun hc=>?_) (fun hc=>?_)
        ·have hkt:k<(C1 nx a).length:=by simpa using hc
         have hNg:∀b,A4 ug b→¬(L3 ui us b∨A4 uw b∨A4 vt2 b∨w12.heap.size≤b):=fun b hb hh=>by
          have h1:=hfo b hb;rcases hh with hh|hh|hh|hh
          ·have:=st3.rows.lt hh;omega
          ·have:=st3.wts.lt hh;omega
          ·have:=st3.q.lt hh;omega
          ·have:=hog12.lt hb;omega
         have hNn:∀b,A4 un b→¬(L3 ui us b∨A4 uw b∨A4 vt2 b∨w12.heap.size≤b):=fun b hb hh=>by
          have h1:=hfn b hb;have h2:=hx11.size;rcases hh with hh|hh|hh|hh
          ·have:=st3.rows.lt hh;omega
          ·have:=st3.wts.lt hh;omega
          ·have:=st3.q.lt hh;omega
          ·have:=hon0.lt hb;omega
         have hog13:=hog12.mod hmod hNg;have hon13:=hon0.mod hmod hNn;have hrn:=hon13.rw_ (b7 st'.ext);have ik:=hrn.inS hkt;have ldk:=M8 (P:=prog) (t:=3) hrn (d7 _) (dq7 hkt) F3;simp only[I8.val]at ldk;have hbat:(C1 nx a)[k]?=some (C1 nx a)[k]:=dq7 hkt;have hbok:=(hgood.row a).2 _ (dr5 hkt);generalize(C1 nx a)[k]=b at ldk hbat hbok;have hbok':=C3.1 hbok;have db:decide (0≤b)=true:=by simpa using hbok'.1
         have hbl:b.toNat<nx.length:=by omega
         have hub:us[b.toNat]?=some (us[b.toNat]'(by omega)):=dq7 _;generalize us[b.toNat]'(by omega)=ub at hub;have inb:=st'.rows.outer.inS (k:=b.toNat) (by omega);have ldb:=aI2 (P:=prog) (t:=275) st'.rows hub aX5;have hrb':=ai0 sj.ilen hbok;have hrow:=st'.rows.row _ _ _ hub hrb';have hrlen:(wAt ins' b).length=gw.length:=by rw[hglen];exact sj.rlen _ (ds9 hrb')
         have hle0:B5 (i4 w) (ai8 w13 ub.v):=fun x o e=>by
          have hn:¬A4 ub.v x:=fun hb2=>by rw[hrow.free hb2]at e;cases e
          rw[W8 hn];exact b7 st'.ext x o e
         have hrowB:=hrow.rebase (b7 st'.ext);have hdj:∀x,A4 ug x→¬A4 ub.v x:=fun x hx hx2=>hNg x hx (.inl (.inr ⟨ub,ds9 hub,hx2⟩));have hRg:=hog13.beside (v:=ub.v) hle0 hdj;have q6:B6 prog .add 3 (.int .i64 k) (.int .i64 1)=some (.int .i64 ((k+1:Nat):Int)):=by
          simp only[B6,E5,dx1];rw[A8 k (by omega)]
         simp only[H5,O2,z6,simprocAttr,h104,k102,k11,k16,ik,ldk,db,inb,ldb];refine z7 (cw2 (ai8 w13 ub.v) ub.v ug (wAt ins' b) gw w13 hrowB (aP3 w13 ub.v) hRg hrlen (by rw[hrlen,hglen];omega)) ?_;rintro rj w14 ⟨hrj,ho14,hm14⟩;have ho14':=ho14.down hle0;have st14:=st'.row hub hm14 ho14';have hN14:t8 (fun b=>L3 ui us b∨A4 uw b∨A4 vt2 b∨w12.heap.size≤b) w12 w14:=hmod.trans (hm14.weaken fun x _ hx=>.inl (.inr ⟨ub,ds9 hub,hx⟩));obtain⟨hp1,hp2⟩:=sj.pot hglen hgs' hbok;have inwb:=st14.wts.inS (k:=b.toNat) (by rw[sj.wlen];exact hbl);have hwb:=M2 (l:=waits') (b:=b) (by rw[sj.wlen];exact hbok);have hwat:waits'[b.toNat]?=some (B4 waits' b):=by
          rw[hwb.2];simp[List.getD,hwb.1]
         have ldw:=D4 (P:=prog) (t:=4) st14.wts hwat ak1;simp only[I8.val]at ldw;generalize hmo:ae9 (wAt ins' b) gw=mo at *;generalize hwbb:B4 waits' b=wb at *;subst hrj;cases mo
         ·have sj':=sj.old hgood hglen hgs' hbat hbok (.inl hmo);simp only[H5,simprocAttr,h104,q6];exact⟨k+1,by omega,by trivial,by omega,_,_,_,by simpa only[hvk12]using st14,sj',by omega,hN14,by simpa only[hvk12]using hq12⟩
         ·cases wb
          ·have sj':=sj.new hgood hglen hgs' hbat hbok hmo hwbb;obtain⟨w15,t5,st15,m15⟩:=st14.wait2 (P:=prog) (t:=4) (k:=b.toNat) (by rw[sj.wlen];exact hbl) true (A0 U1).choose_spec.1 (by rw[←C5 (A0 U1).choose_spec.1];exact aF6);have htl:todo'.length+1≤100000000:=by
            have:=sj.few;have h8:=aQ7 most ins';rw[sj.ilen]at h8;omega
           obtain⟨p1,v',w16,p2,st16,m16,mv16⟩:=st15.push2 (P:=prog) (t:=112) (e:=112) ae1 b (by omega) (by omega);have hN16:t8 (fun b=>L3 ui us b∨A4 uw b∨A4 vt2 b∨w12.heap.size≤b) w12 w16:=(hN14.trans (m15.weaken fun x _ hx=>.inr (.inl hx))).trans (m16.weaken fun x _ hx=>by
            rcases hq12 x hx with h|h
            ·exact .inr (.inr (.inl h))
            ·exact .inr (.inr (.inr h)))
           have hsz15:=(hN14.trans (m15.weaken fun x _ hx=>.inr (.inl hx))).size;have hq16:∀x,A4 v' x→A4 vt2 x∨w12.heap.size≤x:=fun x hx=>by
            rcases mv16 x hx with h|h
            ·exact hq12 x h
            ·exact .inr (by omega)
           simp only[H5,zVB,unV,z6,simprocAttr,h104,k13,db,inwb,ldw,q6,t5,hvk12,p1,p2];exact⟨k+1,by omega,by trivial,by omega,_,_,_,st16,sj',by simp only[dr1,dt2,dx8];have:=hp2 rfl;omega,hN16,hq16⟩
          ·have sj':=sj.old hgood hglen hgs' hbat hbok (.inr hwbb);simp only[H5,zVB,unV,z6,simprocAttr,h104,k13,db,inwb,ldw,q6];exact⟨k+1,by omega,by trivial,by omega,_,_,_,by simpa only[hvk12]using st14,sj',by omega,hN14,by simpa only[hvk12]using hq12⟩
        ·have hge3:k=(C1 nx a).length:=by simp at hc;omega
         subst hge3;have si':=sj.fin rfl;simp only[H5,simprocAttr];have hpl':=aQ7 most ins';rw[si'.ilen]at hpl';exact⟨(ins',todo'),by simp only[cN9,dt2];omega,waits',T+1,by rw[hT1];simpa only[hvk12]using st',si'⟩
    ·have hnil:todo=[]:=by
      cases todo with
      | nil=>rfl
      | cons x rest=>simp at hc
     subst hnil;obtain⟨hfin,hT1,hT2⟩:=si.fin hgood;have Si:=st.rows.outer.isS;have lus:us.length=nx.length:=by rw[st.rows.len,si.ilen]
     have ni:vlen ui=nx.length:=by rw[st.rows.outer.vlen,lus]
     have hgb0:rb<w7.heap.size:=st.lr;have hgb1:gb<w7.heap.size:=st.lg;have hRl:∀b,L3 ui us b→b<w7.heap.size:=fun b hb=>st.rows.lt hb;have hrows7:=st.rows;have hd1:∀b,L3 ui us b→b≠gb∧b≠rb:=fun b hb=>(st.d1 b hb).2.2;have hd4:=st.d4;have hfg':=st.fg;have hfr':=st.frb;simp only[H5,O2,P9,simprocAttr,i11,Si,ni];refine n9 [0,1,2,3,8,9,10,11,129,130] (σ:=Nat) (fun k f w'=>f 131 = .int .i64 k∧k≤nx.length∧(∃vin,w'.heap[gb]?=some (.cells #[vin,.int .i64 (T:Nat)] 189 (0,0))∧B0 (B7 w' (fun b=>A4 vin b∨b<w7.heap.size)) w' 112 vin ((ins.take k).map fun r=>Z4 r most)∧∀b,A4 vin b→w7.heap.size≤b) ∧
      w'.heap[rb]?=some (.cells #[.slice none 0 0,.int .i64 0] 189 (0,0))∧K9 (i4 w) w' 275 220 ui us ins∧o7 w w'∧w7.heap.size≤w'.heap.size) (fun k=>nx.length-k) 0 ?_ ?_
     ·simp only[p6,simprocAttr];exact⟨by trivial,dr8 _,⟨_,st.cg,B0.nil _ _ _,fun b hb=>absurd hb C6⟩,st.cr,hrows7,st.ext,ds5 _⟩
     ·rintro k f w8 hk ⟨h131,hkl,⟨vin,cg,hov,hfv⟩,cr,hrows,hx,hsz⟩;simp only[dq9,p6,simprocAttr]at hk;simp only[i0,i1,i2,i3,i8,i9,i10,i11]at hk;obtain⟨j0,j1,j2,j3,j8,j9,j10,j11,j129,j130,_⟩:=hk;simp only[H5,B6,E5,simprocAttr,h131,j130];refine m8 (fun hc=>?_) (fun hc=>?_)
      ·have hkt:k<nx.length:=by simpa using hc
       have q6:B6 prog .add 3 (.int .i64 k) (.int .i64 1)=some (.int .i64 ((k+1:Nat):Int)):=by
        simp only[B6,E5,dx1];rw[A8 k (by omega)]
       have hua:us[k]?=some (us[k]'(by omega)):=dq7 _;generalize us[k]'(by omega)=ua at hua;have hra:ins[k]?=some (ins[k]'(by rw[si.ilen];exact hkt)):=dq7 _;have htk:(ins.take (k+1)).map (fun r=>Z4 r most)=(ins.take k).map (fun r=>Z4 r most)++[Z4 (ins[k]'(by rw[si.ilen];exact hkt)) most]:=by
        rw[dr6 (by rw[si.ilen];exact hkt),du1];rfl
       have hrl:=si.rlen _ (ds9 hra);generalize ins[k]'(by rw[si.ilen];exact hkt)=r at hra htk hrl;have hd:=o7.drew w8;have cgd:=(hd.block gb (dr3.1 cg).1 id).trans cg;have crd:=(hd.block rb (dr3.1 cr).1 id).trans cr;have hrowsd:=hrows.ext hd;have hxd:=hx.trans hd;have ink:=hrows.outer.inS (k:=k) (by omega);have gbl:=(dr3.1 cgd).1;have rbl:=(dr3.1 crd).1;have hRrow:=(hrowsd.row _ _ _ hua hra).rw_ (b7 hxd);have hovd:=hov.noMod hd (fun b h=>h.elim) (fun b _ h=>h) (N':=fun b=>A4 vin b∨b<w7.heap.size) (fun b h=>.inl h) (fun b h=>.inl h);generalize hwd:w8.drew=wd at *;have hszd:w7.heap.size≤wd.heap.size:=dr7 hsz hd.size;simp only[H5,simprocAttr,h131];refine C0 (fun w2=>o7 wd w2) 9 (A9 [0,1,2,3,4,5,6,7,8]) ?_ (hS:=by rw[hwd];exact t8.refl _);rw[hwd];simp only[D2,A9,H5,O2,simprocAttr,j9];refine⟨vin,fun w2 e=>E9 (i:=0) ((e.block gb gbl id).trans cgd) rfl T6,?_⟩;simp only[D2,H5,O2,z6,simprocAttr,j11,ink];refine⟨ua.v,fun w2 e=>aI2 (hrowsd.ext e) hua aX5,?_⟩;simp only[D2,H5,simprocAttr,j3];refine z7 (cx0 ua.v r most wd hRrow (by omega) (fun f hf=>by rw[hrl];have:=Nat.div_le_div_right (c:=64) (Nat.le_of_lt hf);omega)) ?_;rintro ul w9 ⟨hol,hx9⟩;have Sl:=hol.isS;have hNb:∀b,A4 ul b→¬(A4 vin b∨b<w7.heap.size):=fun b hb hh=>by
        have h1:wd.heap.size≤b:=by
         have:=hol.free hb;exact dE1 fun hlt=>by simp[i4,hlt]at this
        rcases hh with hh|hh
        ·have:=hovd.lt hh;omega
        ·omega
       have hov9:=hovd.noMod hx9 (fun b h=>h.elim) (fun b _ h=>h) (N':=fun b=>A4 vin b∨b<w7.heap.size) (fun b h=>.inl h) (fun b h=>.inl h);have hRl9:=(hol.down (h:=B7 wd (fun b=>A4 vin b∨b<w7.heap.size)) (B3 _ _)).roNo (G6 hx9 (fun b h=>h.elim) (N':=fun b=>A4 vin b∨b<w7.heap.size) fun b h=>.inl h) hNb;obtain⟨p1,v',w10,p2,p3,p4,p5⟩:=push (P:=prog) (t:=153) (e:=153) bU6 rfl hov9 (x:=ul) (y:=Z4 r most) (by rw[D8 Sl];exact hRl9) (by simp;omega) (by simp;omega) (B3 _ _);rw[D8 Sl]at p1 p2;have hgv:¬A4 vin gb:=fun h=>by have:=hfv gb h;omega
       have hrv:¬A4 vin rb:=fun h=>by have:=hfv rb h;omega
       have cg9:=(hx9.block gb gbl id).trans cgd;have cr9:=(hx9.block rb rbl id).trans crd;have cg10:=(p4.block gb (dr3.1 cg9).1 hgv).trans cg9;have cr10:=(p4.block rb (dr3.1 cr9).1 hrv).trans cr9;have Sv:=p3.isS;obtain⟨w11,t6,cg11,m11⟩:=aj6 (P:=prog) (t:=153) (i:=0) (x:=v') cg10 (by simp) (D8 Sv) (W9 Sv) (A0 cD2).choose_spec.1 (by rw[←C5 (A0 cD2).choose_spec.1];exact cU9);have cr11:=(m11.block rb (dr3.1 cr10).1 (fun h=>hd4 h.symm)).trans cr10;have hfv':∀b,A4 v' b→w7.heap.size≤b:=fun b hb=>by
        rcases p5 b hb with h|h
        ·exact hfv b h
        ·have:=hx9.size;omega
       have hov11:B0 (B7 w11 (fun b=>A4 v' b∨b<w7.heap.size)) w11 112 v' ((ins.take k).map (fun r=>Z4 r most)++[Z4 r most]):=by
        have h1:B0 (B7 w10 (fun b=>A4 v' b∨b<w7.heap.size)) w10 112 v' ((ins.take k).map (fun r=>Z4 r most)++[Z4 r most]):=
         p3.reNo (G6 p4 (fun b h=>.inl h) fun b h=>by
          rcases h with h|h
          ·rcases p5 b h with h|h
           ·exact .inl (.inl h)
           ·exact .inr h
          ·exact .inl (.inr h)) fun b h=>.inl h
        exact h1.noMod m11 (fun b h=>.inr (by subst h;exact hgb1)) (fun b hb h=>by subst h;have:=hfv' b hb;omega) (fun b h=>.inl h) (fun b h=>.inl h)
       have hrows11:=((hrowsd.ext hx9).mod p4 (fun b hb hb2=>by have:=hRl b hb;have:=hfv b hb2;omega)).mod m11 (fun b hb h=>(hd1 b hb).1 h);have hx11:o7 w w11:=t8.ext_of (t8.ext_of (hxd.trans hx9) p4 fun b hb=>by have:=hfv b hb;have:=st.ext.size;omega) m11 fun b hb=>by subst hb;exact hfg'
       have hsz11:w7.heap.size≤w11.heap.size:=dr7 hszd (dr7 hx9.size (dr7 p4.size m11.size));simp only[D2,H5,simprocAttr,F1,p1];refine⟨hx9,hx9.trans (o7.alloc w9 _),?_⟩;simp only[H5,zVB,simprocAttr,p2,j9,t6,h131,q6];refine⟨k+1,by omega,by trivial,by omega,⟨v',?_,?_,hfv'⟩,cr11,hrows11,hx11,hsz11⟩
       ·simpa using cg11
       ·rw[htk];exact hov11
      ·have hge4:k=nx.length:=by simp at hc;omega
       subst hge4;rw[dv8 (by rw[si.ilen];exact ds5 _)]at hov;have hlda:=S9 (P:=prog) cg bC5 bC9 bC6 (by rw[ae3];rfl);have Sv:=hov.isS;have hone:∀u∈(#[vin,Value.int .i64 (T:Nat)]:Array Value).toList,u.oneCell'=true:=by
        intro u hu;simp at hu;rcases hu with rfl|rfl
        ·exact W9 Sv
        ·rfl
       obtain⟨w9,t7,cr9,m9⟩:=Z7 (P:=prog) cr aX7 (by rw[ae3];rfl) (cs:=#[vin,.int .i64 (T:Nat)]) (by rw[ae3];rfl) hone;have hov9:=hov.noMod m9 (fun b h=>.inr (by subst h;exact hgb0)) (fun b hb h=>by subst h;have:=hfv b hb;omega) (N':=fun b=>A4 vin b∨b<w7.heap.size) (fun b h=>.inl h) (fun b h=>.inl h);have hR9:R (B7 w9 (fun b=>b<w.heap.size)) vin (ins.map fun r=>Z4 r most):=hov9.ro (fun b o e=>by
        by_cases h:b<w7.heap.size
        ·rw[H3 (.inr h)]at e;cases e
        ·by_cases h2:A4 vin b
         ·rw[H3 (.inl h2)]at e;cases e
         ·rw[D3 (fun hh=>hh.elim h2 h)]at e;rw[D3 (by have:=st.ext.size;omega)];exact e) fun b hb=>D3 (by have:=hfv b hb;have:=st.ext.size;omega)
       have hlda9:=S9 (P:=prog) cr9 bC5 bC9 bC6 (by rw[ae3];rfl);have hx9:o7 w w9:=t8.ext_of hx m9 fun b hb=>by subst hb;exact hfr'
       simp only[H5,simprocAttr,j8,j9,hlda,t7];refine L6 results198 (ad:=⟨rb,0,none⟩) (by simp only[p6,↓reduceIte,Nat.reduceEqDiff];exact j8) hlda9 ?_;simp only[hrb]at hR9;refine⟨⟨vin,ins.map fun r=>Z4 r most,T,rfl,hR9,by rw[dr9,si.ilen],fun b hb=>⟨O1 (wAt ins b),?_,fun i=>hfin b i hb⟩,hT1,hT2⟩,hx9⟩;have h1:=ai0 si.ilen hb;have hlen:(ins.map fun r=>Z4 r most).length=nx.length:=by rw[dr9,si.ilen]
       have h2:=(al9 (nx:=ins.map fun r=>Z4 r most) (a:=b) (by rw[hlen];exact hb)).1;rw[du5,h1]at h2;exact(ds8 h2).symm
structure cp5 (n:Int) (steps:List (Int×Int)) (gl kl:List (List Int)) (most:Int):Prop where
 n0:0≤n
 n5:n≤5000
 m0:0≤most
 m5:most≤5000
 gn:(gl.length:Int)=n
 kn:(kl.length:Int)=n
 st:∀s∈steps,aY0 n.toNat s
 gf:aO6 gl most.toNat
 kf:aO6 kl most.toNat
structure cX5 (nx gl kl:List (List Int)) (most:Nat) (sol:List (List Int)) (T:Nat):Prop where
 len:sol.length=nx.length
 row:∀b,H1 nx.length b=true→∃f:Nat→Bool,C1 sol b=((List.range most).filter f).map (fun(i:Nat)=>(i:Int))∧∀i,f i=true↔at6 nx gl kl b i
 lo:nx.length≤T
 hi:T≤nx.length+nx.length*most
theorem aq2{P:Program}{fn:Func}{R:Value→World→Prop}{f:Fr}{w:World}{v:Value}{a t:Nat}{ty:TypeId}{ad:Addr}(h:fn.results=#[.cell a ty,.tmp t])(hf:f a = .pointer (some ad))(hl:(Instr.loadAt ty (.pointer (some ad))).run P w = .ok v w)(hR:R (.tuple #[v,f t]) w):aJ3 P fn R .ret f w:=by
 refine⟨[v,f t],?_,hR⟩;rw[h];refine⟨?_,rfl,trivial⟩;show(do loadVar ty (←asAddr (f a)):Sem Value).run P w = .ok v w;rw[hf];exact hl
theorem ch2:B8 prog 189 []=some (.agg #[.slice none 0 0,.int .i64 0]):=by
 have h:G0 prog 189=some (.agg #[.slice none 0 0,.int .i64 0]):=aX7
 first
 | (simp[B8,cU4,J5,Instr.fill];done)
 | rfl
theorem cy0(n most:Int)(gl kl:Nat):
  (decide (n<0)=true∧n<0)∨(decide (n<0)=false∧decide (n>5000)=true∧n>5000) ∨
  (decide (n<0)=false∧decide (n>5000)=false∧decide (most<0)=true∧most<0)∨(decide (n<0)=false∧decide (n>5000)=false∧decide (most<0)=false∧decide (most>5000)=true∧most>5000) ∨
  (decide (n<0)=false∧decide (n>5000)=false∧decide (most<0)=false∧decide (most>5000)=false∧((gl:Int) != n)=true∧(gl:Int)≠n) ∨
  (decide (n<0)=false∧decide (n>5000)=false∧decide (most<0)=false∧decide (most>5000)=false∧((gl:Int) != n)=false∧((kl:Int) != n)=true∧(kl:Int)≠n) ∨
  (decide (n<0)=false∧decide (n>5000)=false∧decide (most<0)=false∧decide (most>5000)=false∧((gl:Int) != n)=false∧((kl:Int) != n)=false∧0≤n∧n≤5000∧0≤most∧most≤5000∧(gl:Int)=n∧(kl:Int)=n):=by
 by_cases h1:n<0
 ·exact .inl ⟨by simpa using h1,h1⟩
 ·have e1:decide (n<0)=false:=by simpa using h1
  by_cases h2:n>5000
  ·exact .inr (.inl ⟨e1,by simpa using h2,h2⟩)
  ·have e2:decide (n>5000)=false:=by simpa using h2
   by_cases h3:most<0
   ·exact .inr (.inr (.inl ⟨e1,e2,by simpa using h3,h3⟩))
   ·have e3:decide (most<0)=false:=by simpa using h3
    by_cases h4:most>5000
    ·exact .inr (.inr (.inr (.inl ⟨e1,e2,e3,by simpa using h4,h4⟩)))
    ·have e4:decide (most>5000)=false:=by simpa using h4
     by_cases h5:(gl:Int)=n
     ·have e5:((gl:Int) != n)=false:=by simpa using h5
      by_cases h6:(kl:Int)=n
      ·exact .inr (.inr (.inr (.inr (.inr (.inr ⟨e1,e2,e3,e4,e5,by simpa using h6,by omega,by omega,by omega,by omega,h5,h6⟩)))))
      ·exact .inr (.inr (.inr (.inr (.inr (.inl ⟨e1,e2,e3,e4,e5,by simpa using h6,h6⟩)))))
     ·exact .inr (.inr (.inr (.inr (.inl ⟨e1,e2,e3,e4,by simpa using h5,h5⟩))))
theorem cT0(n most:Int)(v vg vk:Value)(steps:List (Int×Int))(gl kl:List (List Int))(w:World)(hv:R (i4 w) v steps)(hvg:R (i4 w) vg gl)(hvk:R (i4 w) vk kl)(hsl:steps.length≤1000000)
  (hgl:∀x∈gl,x.length≤1000000000) (hkl:∀x∈kl,x.length≤1000000000) :
  p7 prog 136 #[.int .i64 n,v,vg,vk,.int .i64 most] w fun u w'=>((∃vs ok,u = .tuple #[vs,.bool ok] ∧
   (ok=true→cp5 n steps gl kl most∧∃vi sol T,vs = .agg #[vi,.int .i64 (T:Nat)]∧R (B7 w' (fun b=>b<w.heap.size)) vi sol∧cX5 (ai9 n.toNat steps).1 gl kl most.toNat sol T) ∧
   (ok=false→¬cp5 n steps gl kl most∧vs = .agg #[.slice none 0 0,.int .i64 0]))∧o7 w w'):=by
 refine p8 [.int .i64 n,v,vg,vk,.int .i64 most] func136 rfl ?_;have hal:=br4;have hbs:=ch2;have hSg:=hvg.isS;have hng:=hvg.vlen;have hSk:=hvk.isS;have hnk:=hvk.vlen;have hS:=hv.isS;have hvn:=hv.vlen;have c1:(w.alloc (.cells #[.slice none 0 0,.int .i64 0] 189)).heap[w.heap.size]?=some (.cells #[.slice none 0 0,.int .i64 0] 189 (0,0)):=dv4 w _;have x1:=o7.alloc w (.cells #[.slice none 0 0,.int .i64 0] 189);generalize hw1:w.alloc (.cells #[.slice none 0 0,.int .i64 0] 189)=w1 at *;have hal1:=hal w;rw[hw1]at hal1;generalize hrb:w.heap.size=rb at c1 hal1;have hrl:rb<w1.heap.size:=(dr3.1 c1).1;have early:∀w2,o7 w w2→w2.heap[rb]?=some (.cells #[.slice none 0 0,.int .i64 0] 189 (0,0))→∃w3,(Instr.storeAt 189 (.pointer (some ⟨rb,0,none⟩)) (.agg #[.slice none 0 0,.int .i64 0])).run prog w2 = .ok () w3∧o7 w w3 ∧
   (Instr.loadAt 189 (.pointer (some ⟨rb,0,none⟩))).run prog w3 = .ok (.agg #[.slice none 0 0,.int .i64 0]) w3:=by
  intro w2 hx2 hc2;obtain⟨w3,t1,t2,t3⟩:=Z7 (P:=prog) hc2 aX7 (by rw[ae3];rfl) (cs:=#[.slice none 0 0,.int .i64 0]) (by rw[ae3];rfl) (by simp[Value.oneCell']);exact⟨w3,t1,t8.ext_of hx2 t3 fun b hb=>by subst hb;omega,S9 (P:=prog) t2 bC5 bC9 bC6 (by rw[ae3];rfl)⟩
 obtain⟨w3,e1,e2,e3⟩:=early w1 x1 c1;rcases cy0 n most gl.length kl.length with⟨d1,hb⟩|⟨d1,d2,hb⟩|⟨d1,d2,d3,hb⟩|⟨d1,d2,d3,d4,hb⟩|⟨d1,d2,d3,d4,d5,hb⟩|⟨d1,d2,d3,d4,d5,d6,hb⟩|⟨d1,d2,d3,d4,d5,d6,hn0,hn5,hm0,hm5,hgn,hkn⟩
 ·simp only[H5,O2,B6,E5,simprocAttr,hal1,d1,hbs,e1];refine aq2 results136 (ad:=⟨rb,0,none⟩) (by simp only[p6,↓reduceIte,Nat.reduceEqDiff]) e3 ?_;simp only[p6,simprocAttr];exact⟨⟨_,false,rfl,(fun h=>(by cases h)),fun _=>⟨fun h=>by have:=h.n0;omega,rfl⟩⟩,e2⟩
 ·simp only[H5,O2,B6,E5,simprocAttr,hal1,d1,d2,hbs,e1];refine aq2 results136 (ad:=⟨rb,0,none⟩) (by simp only[p6,↓reduceIte,Nat.reduceEqDiff]) e3 ?_;simp only[p6,simprocAttr];exact⟨⟨_,false,rfl,(fun h=>(by cases h)),fun _=>⟨fun h=>by have:=h.n5;omega,rfl⟩⟩,e2⟩
 ·simp only[H5,O2,B6,E5,simprocAttr,hal1,d1,d2,d3,hbs,e1];refine aq2 results136 (ad:=⟨rb,0,none⟩) (by simp only[p6,↓reduceIte,Nat.reduceEqDiff]) e3 ?_;simp only[p6,simprocAttr];exact⟨⟨_,false,rfl,(fun h=>(by cases h)),fun _=>⟨fun h=>by have:=h.m0;omega,rfl⟩⟩,e2⟩
 ·simp only[H5,O2,B6,E5,simprocAttr,hal1,d1,d2,d3,d4,hbs,e1];refine aq2 results136 (ad:=⟨rb,0,none⟩) (by simp only[p6,↓reduceIte,Nat.reduceEqDiff]) e3 ?_;simp only[p6,simprocAttr];exact⟨⟨_,false,rfl,(fun h=>(by cases h)),fun _=>⟨fun h=>by have:=h.m5;omega,rfl⟩⟩,e2⟩
 ·simp only[H5,O2,B6,E5,P9,simprocAttr,hal1,hSg,hng,d1,d2,d3,d4,d5,hbs,e1];refine aq2 results136 (ad:=⟨rb,0,none⟩) (by simp only[p6,↓reduceIte,Nat.reduceEqDiff]) e3 ?_;simp only[p6,simprocAttr];exact⟨⟨_,false,rfl,(fun h=>(by cases h)),fun _=>⟨fun h=>hb h.gn,rfl⟩⟩,e2⟩
 ·simp only[H5,O2,B6,E5,P9,simprocAttr,hal1,hSg,hng,hSk,hnk,d1,d2,d3,d4,d5,d6,hbs,e1];refine aq2 results136 (ad:=⟨rb,0,none⟩) (by simp only[p6,↓reduceIte,Nat.reduceEqDiff]) e3 ?_;simp only[p6,simprocAttr];exact⟨⟨_,false,rfl,(fun h=>(by cases h)),fun _=>⟨fun h=>hb h.kn,rfl⟩⟩,e2⟩
 ·clear e1 e2 e3 w3;simp only[H5,O2,B6,E5,P9,simprocAttr,hal1,hSg,hng,hSk,hnk,d1,d2,d3,d4,d5,d6,hS,hvn];obtain⟨N,hN⟩:∃N:Nat,n=N:=⟨n.toNat,by omega⟩;obtain⟨M,hM⟩:∃M:Nat,most=M:=⟨most.toNat,by omega⟩;have hNt:n.toNat=N:=by omega
  have hMt:most.toNat=M:=by omega
  have hbad:∀e:Int×Int,bp3 n e=false↔aY0 N e:=fun e=>by rw[hN];exact bO5
  refine n9 [0,1,2,3,4,10,45,46] (σ:=Nat) (fun k f w'=>f 47 = .int .i64 k∧k≤steps.length∧(∀e∈steps.take k,aY0 N e)∧o7 w1 w') (fun k=>steps.length-k) 0 ?_ ?_
  ·simp only[p6,simprocAttr];exact⟨by first|rfl|trivial,dr8 _,by simp,t8.refl _⟩
  ·rintro k f w2 hk ⟨h47,hkle,hdone,hx⟩;simp only[dq9,p6,simprocAttr]at hk;obtain⟨e0,e1,e2,e3,e4,e10,e45,e46,_⟩:=hk;simp only[H5,B6,E5,simprocAttr,h47,e46];refine m8 (fun hc=>?_) (fun hc=>?_)
   ·have hlt:k<steps.length:=by simpa using hc
    have hin:=hv.inS hlt;have hld:=ldP hv (b7 (x1.trans hx)) (dq7 hlt);have hmem:steps[k]∈steps:=dr5 hlt;have htk:steps.take (k+1)=steps.take k++[steps[k]]:=dr6 hlt;generalize steps[k]=e at hld hmem htk;obtain⟨x,y⟩:=e;simp only at hld;obtain⟨p1,p2⟩:=cO8 w2 x y;have q0:=cO6 w2 x y;have q1:=cO7 w2 x y;have hx3:=hx.trans (o7.alloc w2 (.cells #[.int .i64 x,.int .i64 y] 128));generalize w2.alloc (.cells #[.int .i64 x,.int .i64 y] 128)=w3 at *;obtain⟨w4,g1,g2,g3⟩:=early w3 (x1.trans hx3) ((hx3.block rb hrl id).trans c1);have hnb:∀{b:Bool},bp3 n (x,y)=true→¬cp5 n steps gl kl most:=fun hb h=>by
     have h2:=h.st (x,y) hmem;rw[hNt]at h2;have:=(hbad (x,y)).2 h2;rw[hb]at this;cases this
    rcases cg5 n x y with⟨r1,hb⟩|⟨r1,r2,hb⟩|⟨r1,r2,r3,hb⟩|⟨r1,r2,r3,r4,hb⟩|⟨r1,r2,r3,r4,hb⟩
    case' inl=>simp only[H5,O2,B6,E5,z6,simprocAttr,h47,e45,hin,hld,p1,p2,q0,r1,e10,hbs,g1]
    case' inr.inl=>simp only[H5,O2,B6,E5,z6,simprocAttr,h47,e45,e0,hin,hld,p1,p2,q0,r1,r2,e10,hbs,g1]
    case' inr.inr.inl=>simp only[H5,O2,B6,E5,z6,simprocAttr,h47,e45,e0,hin,hld,p1,p2,q0,q1,r1,r2,r3,e10,hbs,g1]
    case' inr.inr.inr.inl=>simp only[H5,O2,B6,E5,z6,simprocAttr,h47,e45,e0,hin,hld,p1,p2,q0,q1,r1,r2,r3,r4,e10,hbs,g1]
    case' inr.inr.inr.inr=>simp only[H5,O2,B6,E5,z6,simprocAttr,h47,e45,e0,hin,hld,p1,p2,q0,q1,r1,r2,r3,r4]
    case inr.inr.inr.inr=>
     refine⟨k+1,by omega,by rw[A8 k (by omega)],by omega,fun e he=>?_,hx3⟩;rw[htk,ds4,dt8]at he;rcases he with he|he
     ·exact hdone e he
     ·subst he;exact(hbad _).1 hb
    all_goals
     refine aq2 results136 (ad:=⟨rb,0,none⟩) (by simp only[p6,↓reduceIte,Nat.reduceEqDiff];exact e10) g3 ?_;simp only[p6,simprocAttr];exact⟨⟨_,false,rfl,(fun h=>(by cases h)),fun _=>⟨hnb (b:=true) hb,rfl⟩⟩,g2⟩
   ·have hge:k=steps.length:=by simp at hc;omega
    subst hge;rw[ds2]at hdone;have hx2:=x1.trans hx;have hvg2:R (i4 w2) vg gl:=A3.mono (b7 hx2) hvg;have hs1:=bK9 vg gl M w2 hvg2 (by omega) (by omega) hgl;rw[←hM]at hs1;simp only[H5,simprocAttr,e2,e4];refine z7 hs1 ?_;rintro r1 w3 ⟨⟨ub,okg,hr1,hg1,hg2⟩,hx3⟩;subst hr1;have hvk3:R (i4 w3) vk kl:=A3.mono (b7 (hx2.trans hx3)) hvk;have hs2:=bK9 vk kl M w3 hvk3 (by omega) (by omega) hkl;rw[←hM]at hs2;simp only[H5,simprocAttr,e3,e4];refine z7 hs2 ?_;rintro r2 w4 ⟨⟨uk,okk,hr2,hk1,hk2⟩,hx4⟩;subst hr2;have hx14:=(hx.trans hx3).trans hx4;have hx04:=x1.trans hx14;obtain⟨w5,g1,g2,g3⟩:=early w4 hx04 ((hx14.block rb hrl id).trans c1);cases okg
    ·simp only[H5,O2,unV,simprocAttr,e10,hbs,g1];refine aq2 results136 (ad:=⟨rb,0,none⟩) (by simp only[p6,↓reduceIte,Nat.reduceEqDiff];exact e10) g3 ?_;simp only[p6,simprocAttr];exact⟨⟨_,false,rfl,(fun h=>(by cases h)),fun _=>⟨fun h=>hg2 rfl (by have:=h.gf;rw[hMt]at this;exact this),rfl⟩⟩,g2⟩
    ·cases okk
     ·simp only[H5,O2,unV,simprocAttr,e10,hbs,g1];refine aq2 results136 (ad:=⟨rb,0,none⟩) (by simp only[p6,↓reduceIte,Nat.reduceEqDiff];exact e10) g3 ?_;simp only[p6,simprocAttr];exact⟨⟨_,false,rfl,(fun h=>(by cases h)),fun _=>⟨fun h=>hk2 rfl (by have:=h.kf;rw[hMt]at this;exact this),rfl⟩⟩,g2⟩
     ·clear g1 g2 g3 w5;obtain⟨hgf,gs,hRg,hSg'⟩:=hg1 rfl;obtain⟨hkf,ks,hRk,hSk'⟩:=hk1 rfl;have hnew:=cc7 N v steps w4 (by omega) (A3.mono (b7 hx04) hv) (by omega);rw[←hN]at hnew;simp only[H5,O2,unV,simprocAttr,e0,e1];refine z7 hnew ?_;rintro pg w5 ⟨⟨Mb,hgo⟩,hx5⟩;have hgg:=ag1 N steps;have hgr:=hgo.read (b7 hx5);have hok:cp5 n steps gl kl most:=⟨hn0,hn5,hm0,hm5,hgn,hkn,by rw[hNt];exact hdone,by rw[hMt];exact hgf,by rw[hMt];exact hkf⟩;rw[hNt,hMt];generalize ai9 N steps=G at *;obtain⟨nx,pv⟩:=G;simp only at hgr;have hnl:nx.length=N:=hgg.nx.len;have hgg':aB6 nx.length (nx,pv):=by rw[hnl];exact hgg
      have hsol:=cn7 pg nx pv ub uk gs ks gl kl M w5 hgr hgg' (A3.mono (b7 (hx4.trans hx5)) hRg) (A3.mono (b7 hx5) hRk) hSg' hSk' (by omega) (by omega) hgf (by omega) (by omega);rw[←hM]at hsol;simp only[H5,simprocAttr,e4];refine z7 hsol ?_;rintro r3 w6 ⟨⟨vi,sol,T,hr3,hRs,hs1,hs2,hs3,hs4⟩,hx6⟩;subst hr3;have hx16:=(hx14.trans hx5).trans hx6;have Sv:=hRs.isS;have hone:∀u∈(#[vi,Value.int .i64 (T:Nat)]:Array Value).toList,u.oneCell'=true:=by
       intro u hu;simp at hu;rcases hu with rfl|rfl
       ·exact W9 Sv
       ·rfl
      obtain⟨w7,t1,t2,t3⟩:=Z7 (P:=prog) ((hx16.block rb hrl id).trans c1) aX7 (by rw[ae3];rfl) (cs:=#[vi,.int .i64 (T:Nat)]) (by rw[ae3];rfl) hone;have hlda:=S9 (P:=prog) t2 bC5 bC9 bC6 (by rw[ae3];rfl);simp only[H5,simprocAttr,e10,t1];refine aq2 results136 (ad:=⟨rb,0,none⟩) (by simp only[p6,↓reduceIte,Nat.reduceEqDiff];exact e10) hlda ?_;simp only[p6,simprocAttr];refine⟨⟨_,true,rfl,fun _=>⟨hok,vi,sol,T,rfl,?_,⟨hs1,hs2,hs3,hs4⟩⟩,(fun h=>(by cases h))⟩,t8.ext_of (x1.trans hx16) t3 fun b hb=>by subst hb;omega⟩;have hrb5:rb<w5.heap.size:=dw9 hrl (hx14.trans hx5).size;refine A3.mono (G6 t3 (fun b hb=>by subst hb;exact hrb5) fun b hb=>.inl ?_) hRs;have:=(x1.trans (hx14.trans hx5)).size;omega
theorem da2(x:Int)(w:World){h:Hp}(hw:B5 h (i4 w)):∃v w',(Instr.buildSlice 112 1 #[(0,.int .i64 x)]).run prog w = .ok v w'∧B0 h w' 3 v [x]∧o7 w w'∧(∀b,A4 v b→w.heap.size≤b):=
 lit (P:=prog) (w:=w) (h:=h) (α:=Int) (xs:=[.int .i64 x]) (ys:=[x]) (parts:=#[(0,.int .i64 x)]) (n:=1) ae1 rfl (L8.2 rfl) (by simp[Value.cells]) rfl rfl (by simp) (by simp) hw
theorem dd6(w:World){vi:Value}(T:Int)(h1:isS vi=true):
  (Instr.alloc 189 true (.tuple #[])).run prog w = .ok (.pointer (some ⟨w.heap.size,0,none⟩)) (w.alloc (.cells #[.slice none 0 0,.int .i64 0] 189)) ∧
  (Instr.storeAt 189 (.pointer (some ⟨w.heap.size,0,none⟩)) (.agg #[vi,.int .i64 T])).run prog (w.alloc (.cells #[.slice none 0 0,.int .i64 0] 189)) =
   .ok () (w.alloc (.cells #[vi,.int .i64 T] 189)):=
 aJ7 (P:=prog) (T:=189) aX7 (by rw[ae3];rfl) (cs:=#[vi,.int .i64 T]) (by rw[ae3];rfl) (by
  intro u hu;simp only[dt1,dw3,dC5]at hu;rcases hu with rfl|rfl
  ·exact W9 h1
  ·rfl)
theorem cK7(w:World){vi:Value}{T:Int}:
  (Instr.loadAt 153 (.pointer (some ⟨w.heap.size,0,none⟩))).run prog (w.alloc (.cells #[vi,.int .i64 T] 189)) = .ok vi (w.alloc (.cells #[vi,.int .i64 T] 189)):=
 E9 (T:=189) (cs:=#[vi,.int .i64 T]) (i:=0) (dv4 w _) rfl T6
theorem cv0{nx:List (List Int)}(hg:D6 nx.length nx):OkR nx:=fun a b hb=>(hg.row _).2 _ hb
theorem ch8(a:Addr)(p:Pg)(i:Nat)(v vat:Value)(at_:List Nat)(w:World)(ha:At (i4 w) a (y5 p))(hr:E8 p)(hw:D1 p≤1000000)(hi:i<p.procs.length)(hv:R (i4 w) v ((E2 (b9 p) i).pairs (E2 (b9 p) i).data))(hvat:R (i4 w) vat (at_.map fun(a:Nat)=>(a:Int)))(hnd:at_.Nodup)(hlt:∀A∈at_,(A:Int)<(E2 (b9 p) i).n):
  p7 prog 86 #[.pointer (some a),.int .i64 i,v,vat] w fun u w'=>((∃sol,R (B7 w' (fun b=>b<w.heap.size)) u sol∧(sol.length:Int)=(E2 (b9 p) i).n∧(∀c:Nat,(c:Int)<(E2 (b9 p) i).n→∃g:Nat→Bool,C1 sol c=((List.range at_.length).filter g).map (fun(f:Nat)=>(f:Int))∧∀f A,at_[f]?=some A→(g f=true↔aU1 ((y5 p).nx i) at_ A c=true)))∧o7 w w'):=by
 refine p8 [.pointer (some a),.int .i64 i,v,vat] func86 rfl ?_;obtain⟨x,pt⟩:=O8 hr.may hw i hi;have hwy:=V0 pt;generalize x+A5 p.procs[i].body=y at pt hwy;have h200:=G9 hr.may;have hn:=hwy.n;have hlen:=pt.ok.len;have hle':=pt.ok.le;have hdl:=aO3 hr hw hi hwy;have hpr:=bg9 hr hw hi hwy;have hpl:((E2 (b9 p) i).pairs (E2 (b9 p) i).data).length≤1000000:=dr7 (Nat.le_of_eq (dr9 _)) hdl;clear hdl;have hnxe:(y5 p).nx (i:Int)=(ai9 (E2 (b9 p) i).n.toNat ((E2 (b9 p) i).pairs (E2 (b9 p) i).data)).1:=by
  unfold Bk.nx;rw[T9 hi]
 obtain⟨sh,vw,_,_,_,_,has,hvw,_,_,_,_,ldb,_⟩:=ha.book rfl;obtain⟨aw,hcw,haw⟩:=ay1 (hv:=hvw) (k:=i) (p:=⟨E2 (b9 p) i⟩) (by show((J2 p).map fun w=>(⟨w⟩:Ptr Wy))[i]?=_;rw[du5,W6 hi];rfl);simp only at haw;have hinw:=hvw.inS (k:=i) (by show i<((J2 p).map fun w=>(⟨w⟩:Ptr Wy)).length;unfold J2;simpa using hi);obtain⟨_,_,_,_,_,_,ldw,_⟩:=haw.wy;rw[hnxe];generalize(E2 (b9 p) i).pairs (E2 (b9 p) i).data=steps at hv hpr hpl;generalize(E2 (b9 p) i).n=wn at hn hlt ldw hpr;obtain⟨M,rfl⟩:∃M:Nat,wn=(M:Int):=⟨wn.toNat,by omega⟩;simp only[dt5];have hltM:∀A∈at_,A<M:=fun A hA=>by have:=hlt A hA;omega
 have hml:at_.length≤M:=by
  have:=M9 (m:=List.range M) hnd fun A hA=>dv0.2 (hltM A hA);simpa using this
 have lb:=ldb w (d7 _);have hlw:=G1 (P:=prog) (t:=126) hcw (d7 _) az2;have lw:=ldw w (d7 _);have hz:A3.enc (i4 w) (Value.slice none 0 0).cells.toList ([]:List Int):=aB4 _;have mkI:=fun(wa:World) (ha:o7 w wa)=>mk (P:=prog) (w:=wa) (h:=i4 w) (α:=List Int) bU6 T7 (y:=[]) hz (n:=M) (by omega) (by omega) (b7 ha);obtain⟨il,hil,hil1⟩:=aS5 (P:=prog) T7 aF5;simp only[i5,n8,z6,simprocAttr,lb,hinw,hlw,lw];refine ct6 [2,3,9] (fun w'=>o7 w w') 6 (.op 0 (.op 2 (.fork [1,3] (fun i=>if i=1 then(A9 [4,3,5])else(A9 [1,4,5])))))
  (fun f' w'=>B0 (i4 w) w' 112 (f' 10) (List.replicate M ([]:List Int))∧B0 (i4 w) w' 112 (f' 11) (List.replicate M ([]:List Int))∧(∀b,A4 (f' 10) b→¬A4 (f' 11) b)∧o7 w w') (by decide +kernel) (by decide +kernel) (o7.drew w) ?_ ?_
 ·simp only[D2,A9,i5,simprocAttr];obtain⟨va,wA,m1,o1,xA,f1,_⟩:=mkI w.drew (o7.drew w);have hxA:=(o7.drew w).trans xA;obtain⟨vb,wB,m2,o2,xB,f2,_⟩:=mkI wA hxA;have hdj:∀b,A4 va b→¬A4 vb b:=fun b h1 h2=>by have:=o1.lt h1;have:=f2 b h2;omega
  refine av7 (by decide +kernel) (fun i hi=>?_);simp only[dt1,dw3,dC5]at hi;rcases hi with rfl|rfl
  ·simp only[D2,i5,simprocAttr,m1,m2,F1];exact⟨hxA,hxA.trans xB,o1.ext xB,o2,hdj,hxA.trans xB⟩
  ·simp only[D2,i5,simprocAttr,m1,m2,F1];exact⟨hxA,hxA.trans xB,o2,o1.ext xB,fun b h1 h2=>hdj b h2 h1,hxA.trans xB⟩
 rintro f w1 hk ⟨hog,hok,hdj,hx1⟩;simp only[dq9,p6,simprocAttr]at hk;obtain⟨e2,e3,e9,_⟩:=hk;generalize h10:f 10=vg at hog hdj;generalize h11:f 11=vk at hok hdj;have hSt:=hvat.isS;have hnt:=hvat.vlen;rw[dr9]at hnt;simp only[D2,i5,n8,simprocAttr,e3,hSt,hnt];refine n9 [2,3,9,10,11,33] (σ:=Nat×Value) (fun s f w'=>f 34 = .int .i64 s.1∧f 12=s.2∧s.1≤at_.length∧B0 (i4 w1) w' 3 s.2 ((List.range s.1).map fun(f:Nat)=>(f:Int))∧o7 w1 w') (fun s=>at_.length-s.1) (0,.slice none 0 0) ?_ ?_
 ·simp only[p6,simprocAttr];exact⟨by first|rfl|trivial,trivial,dr8 _,B0.nil _ _ _,t8.refl _⟩
 rintro⟨k,ua⟩ f2 w2 hk ⟨h34,h12,hkl,hoa,hx2⟩;simp only at h34 h12 hkl hoa;simp only[dq9,p6,simprocAttr]at hk;obtain⟨g2,g3,g9,g10,g11,g33,_⟩:=hk;rw[e2]at g2;rw[e3]at g3;rw[e9]at g9;rw[h10]at g10;rw[h11]at g11;simp only[i5,n8,simprocAttr,h34,g33];refine m8 (fun hc=>?_) (fun hc=>?_)
 ·have hltk:k<at_.length:=by simpa using hc
  obtain⟨p1,u3,w3,p2,p3,p4,p5⟩:=push (P:=prog) (t:=112) (e:=112) ae1 rfl hoa (x:=.int .i64 (k:Int)) (y:=(k:Int)) rfl (by rw[dr9,dw7];omega) (by rw[dr9,dw7];omega) (b7 hx2);simp only[Value.cells]at p1 p2;simp only[i5,n8,simprocAttr,h34,h12,p1,p2];refine⟨(k+1,u3),by simp only[];omega,by simp only[];rw[A8 k (by omega)],by trivial,by simp only[];omega,?_,hoa.ext2 hx2 p4⟩;simp only[];have e:(List.range (k+1)).map (fun(f:Nat)=>(f:Int))=(List.range k).map (fun(f:Nat)=>(f:Int))++[(k:Int)]:=by
   rw[dB9,du1,List.map_singleton]
  rw[e];exact p3
 have hge:k=at_.length:=by simp at hc;omega
 subst hge;have hx02:=hx1.trans hx2;have hNge:∀b,(A4 vg b∨A4 vk b)→w.heap.size≤b∧b<w1.heap.size:=fun b h=>by
  rcases h with h|h
  ·exact⟨D0 (hog.free h),hog.lt h⟩
  ·exact⟨D0 (hok.free h),hok.lt h⟩
 have hb02:B5 (i4 w) (B7 w2 (fun b=>A4 vg b∨A4 vk b)):=aH1 hx02 fun b hb=>(hNge b hb).1;have hog2:=(hog.ext hx2).reNo (N:=fun b=>A4 vg b∨A4 vk b) hb02 fun b hb=>.inl hb;have hok2:=(hok.ext hx2).reNo (N:=fun b=>A4 vg b∨A4 vk b) hb02 fun b hb=>.inr hb;have hua:R (B7 w2 (fun b=>A4 vg b∨A4 vk b)) ua ((List.range at_.length).map fun(f:Nat)=>(f:Int)):=hoa.flatR fun b hb=>D3 fun h=>by
  have h1:=D0 (hoa.free hb);have:=(hNge b h).2;omega
 have hSa:=hua.isS;simp only[i5,n8,simprocAttr,g3,hSt,hnt];refine n9 [2,3,9,10,11,12,42,43] (σ:=Nat) (fun k f w'=>f 44 = .int .i64 k∧k≤at_.length∧B0 (B7 w' (fun b=>A4 vg b∨A4 vk b)) w' 112 vg (ac6 at_ (fun f=>[(f:Int)]) M k)∧B0 (B7 w' (fun b=>A4 vg b∨A4 vk b)) w' 112 vk (ac6 at_ (fun _=>(List.range at_.length).map fun(f:Nat)=>(f:Int)) M k)∧t8 (fun b=>A4 vg b∨A4 vk b) w2 w') (fun k=>at_.length-k) 0 ?_ ?_
 ·simp only[p6,simprocAttr];exact⟨by trivial,dr8 _,hog2,hok2,t8.refl _⟩
 rintro k f4 w4 hk ⟨h44,hkl4,hog4,hok4,hm4⟩;simp only[dq9,p6,simprocAttr]at hk;obtain⟨j2,j3,j9,j10,j11,j12,j42,j43,_⟩:=hk;rw[g2]at j2;rw[g3]at j3;rw[g9]at j9;rw[g10]at j10;rw[g11]at j11;rw[h12]at j12;have hx04:o7 w w4:=t8.ext_of hx02 hm4 fun b hb=>(hNge b hb).1;have hm4l:B5 (B7 w2 (fun b=>A4 vg b∨A4 vk b)) (B7 w4 (fun b=>A4 vg b∨A4 vk b)):=G6 hm4 (fun _ h=>h) fun _ h=>.inl h;simp only[i5,n8,simprocAttr,h44,j43];refine m8 (fun hc2=>?_) (fun hc2=>?_)
 ·have hltk:k<at_.length:=by simpa using hc2
  have hin:=hvat.inS (k:=k) (by rw[dr9];exact hltk);have hld:=aJ6 hvat (b7 hx04) (k:=k) (by rw[dr9];exact hltk);rw[dA2]at hld;have hAM:=hltM _ (dr5 hltk);have hgd:at_.getD k 0=at_[k]:=by rw[List.getD,dq7 hltk];rfl
  generalize at_[k]=A at hld hAM hgd;obtain⟨ul,w5,q1,q2,q3,q4⟩:=da2 (k:Int) w4 (d7 _);have hl45:B5 (B7 w4 (fun b=>A4 vg b∨A4 vk b)) (B7 w5 (fun b=>A4 vg b∨A4 vk b)):=G6 q3 (fun _ h=>h.elim) fun _ h=>.inl h;have hNlt:∀b,(A4 vg b∨A4 vk b)→b<w4.heap.size:=fun b hb=>dw9 (hNge b hb).2 (dr7 hx2.size hm4.size);have hul:R (B7 w5 (fun b=>A4 vg b∨A4 vk b)) ul [(k:Int)]:=q2.flatR fun b hb=>D3 fun h=>by
   have h1:=q4 b hb;have:=hNlt b h;omega
  have hog5:=(hog4.ext q3).up hl45 fun b hb=>H3 (.inl hb);have hok5:=(hok4.ext q3).up hl45 fun b hb=>H3 (.inr hb);obtain⟨w6,s1,hog6,hm6,_⟩:=D9 (P:=prog) (t:=112) hog5 rfl (k:=A) (by rw[U5];exact hAM) (x:=ul) (y:=[(k:Int)]) hul (D8 q2.isS) hil hil1;have hl56:B5 (B7 w5 (fun b=>A4 vg b∨A4 vk b)) (B7 w6 (fun b=>A4 vg b∨A4 vk b)):=G6 hm6 (fun _ h=>.inl h) fun _ h=>.inl h;have hok6:=(hok5.mod hm6 fun b hb hb2=>hdj b hb2 hb).up hl56 fun b hb=>H3 (.inr hb);have hua6:=A3.mono (p9 hm4l (p9 hl45 hl56)) hua;obtain⟨w7,s2,hok7,hm7,_⟩:=D9 (P:=prog) (t:=112) hok6 rfl (k:=A) (by rw[U5];exact hAM) (x:=ua) (y:=(List.range at_.length).map fun(f:Nat)=>(f:Int)) hua6 (D8 hSa) hil hil1;have hl67:B5 (B7 w6 (fun b=>A4 vg b∨A4 vk b)) (B7 w7 (fun b=>A4 vg b∨A4 vk b)):=G6 hm7 (fun _ h=>.inr h) fun _ h=>.inl h;have hog7:=(((hog6.up hl56 fun b hb=>H3 (.inl hb)).mod hm7 fun b hb hb2=>hdj b hb hb2)).up hl67 fun b hb=>H3 (.inl hb);have hok7':=hok7.up hl67 fun b hb=>H3 (.inr hb);have hing:=hog5.inS (k:=A) (by rw[U5];exact hAM);have hink:=hok6.inS (k:=A) (by rw[U5];exact hAM);simp only[i5,n8,z6,simprocAttr,h44,j10,j11,j12,j42,hin,hld,q1,hing,s1,hink,s2];refine⟨k+1,by omega,by rw[A8 k (by omega)],by omega,?_,?_,?_⟩
  ·rw[ac6,hgd];exact hog7
  ·rw[ac6,hgd];exact hok7'
  ·exact(hm4.trans (t8.up q3)).trans ((t8.weaken hm6 fun b _ h=>.inl h).trans (t8.weaken hm7 fun b _ h=>.inr h))
 have hge:k=at_.length:=by simp at hc2;omega
 subst hge;have hrowg:=bw1 (g:=fun f=>[(f:Int)]) (n:=M) hnd hltM;have hrowk:=bw1 (g:=fun _=>(List.range at_.length).map fun(f:Nat)=>(f:Int)) (n:=M) hnd hltM;have hgg:∀r∈ac6 at_ (fun f=>[(f:Int)]) M at_.length,r.length≤1000∧∀f∈r,0≤f∧f<(at_.length:Int):=fun r hr=>by
  obtain⟨q,hq⟩:=dB7.1 hr;rcases av9 hnd hltM _ (ds5 _) q r hq with⟨f,hf,_,rfl⟩|⟨_,rfl⟩
  ·exact⟨by simp,fun f' hf'=>by simp at hf';omega⟩
  ·exact⟨by simp,fun f' hf'=>by simp at hf'⟩
 have hkk:∀r∈ac6 at_ (fun _=>(List.range at_.length).map fun(f:Nat)=>(f:Int)) M at_.length,r.length≤1000∧∀f∈r,0≤f∧f<(at_.length:Int):=fun r hr=>by
  obtain⟨q,hq⟩:=dB7.1 hr;rcases av9 hnd hltM _ (ds5 _) q r hq with⟨f,hf,_,rfl⟩|⟨_,rfl⟩
  ·refine⟨by simp;omega,fun f' hf'=>?_⟩;obtain⟨z,hz,rfl⟩:=dt7.1 hf';have:=dv0.1 hz;omega
  ·exact⟨by simp,fun f' hf'=>by simp at hf'⟩
 have hgl:=U5 at_ (fun f=>[(f:Int)]) M at_.length;have hkl:=U5 at_ (fun _=>(List.range at_.length).map fun(f:Nat)=>(f:Int)) M at_.length;generalize ac6 at_ (fun f=>[(f:Int)]) M at_.length=gl at hog4 hrowg hgg hgl;generalize ac6 at_ (fun _=>(List.range at_.length).map fun(f:Nat)=>(f:Int)) M at_.length=kl at hok4 hrowk hkk hkl;have hofok:cp5 (M:Int) steps gl kl (at_.length:Int):=by
  refine⟨by omega,by omega,by omega,by omega,by omega,by omega,fun s hs=>?_,fun r hr f hf=>?_,fun r hr f hf=>?_⟩
  ·have:=hpr s hs;rw[dt5];unfold aY0;omega
  ·have:=(hgg r hr).2 f hf;rw[dt5];exact this
  ·have:=(hkk r hr).2 f hf;rw[dt5];exact this
 simp only[i5,n8,simprocAttr,j2,j3,j9,j10,j11,hSt,hnt];refine z7 (cT0 (M:Int) (at_.length:Int) v vg vk steps gl kl w4 (A3.mono (b7 hx04) hv) (hog4.rw_ (B3 _ _)) (hok4.rw_ (B3 _ _)) (by omega) (fun r hr=>by have:=(hgg r hr).1;omega) fun r hr=>by have:=(hkk r hr).1;omega) ?_;rintro _ w5 ⟨⟨vs,okb,rfl,hyes,hno⟩,hx5⟩;cases okb with
 | false=>exact absurd hofok (hno rfl).1
 | true=>
  obtain⟨_,vi,sol,T,rfl,hsol,hso⟩:=hyes rfl;have hSi:=hsol.isS;obtain⟨al,st⟩:=dd6 w5 (T:Int) hSi;have lin:=cK7 w5 (vi:=vi) (T:=(T:Int));simp only[i5,n8,simprocAttr,al,st,lin];refine o6 results86 ?_;simp only[p6,simprocAttr];have hxa:=o7.alloc w5 (.cells #[vi,.int .i64 (T:Int)] 189);have hgood:=(ag1 M steps).nx;have hgl2:=hgood.len;rw[dt5]at hso;refine⟨⟨sol,?_,?_,fun c hcM=>?_⟩,(hx04.trans hx5).trans hxa⟩
  ·refine A3.mono (fun b o e=>?_) hsol;have hn1:¬b<w4.heap.size:=fun h=>by rw[H3 (N:=fun b=>b<w4.heap.size) h]at e;cases e
   rw[D3 (N:=fun b=>b<w4.heap.size) hn1]at e;rw[D3 (N:=fun b=>b<w.heap.size) (fun h=>hn1 (dw9 h hx04.size))];exact b7 hxa b o e
  ·rw[hso.len,hgl2]
  ·obtain⟨g,hg1,hg2⟩:=hso.row (c:Int) (C3.2 ⟨by omega,by rw[hgl2];exact hcM⟩);rw[dt5]at hg1;refine⟨g,hg1,fun f A hf=>?_⟩;rw[hg2,bP6 (cv0 (by rw[hgl2];exact hgood)),ch9 ?_ ?_ hf]
   ·intro a' f';rw[hrowg];constructor
    ·rintro⟨f2,A2,h1,h2,h3⟩;have:f'=f2:=by simp at h3;omega
     subst this;exact⟨A2,h1,h2⟩
    ·rintro⟨A2,h1,h2⟩;exact⟨f',A2,h1,h2,by simp⟩
   ·intro a' f' hf';rw[hrowk];constructor
    ·rintro⟨f2,A2,h1,h2,_⟩;exact⟨A2,ds9 h1,h2⟩
    ·rintro⟨A2,h1,h2⟩;obtain⟨f2,hf2⟩:=dB7.1 h1;exact⟨f2,A2,hf2,h2,dt7.2 ⟨f',dv0.2 hf',rfl⟩⟩
section
section
variable {P:Program} {K:Fr→World→Prop} {f:Fr} {w:World} {d:Option Nat} {ty:TypeId} {pos:String} {aft:Array Edge}
theorem cy4{t:Nat}{x:Operand}:B1 P none ⟨d,.range t x,ty,pos,aft,none⟩ K f w=ad7 ((Instr.range t (ev f x)).run P w) K f d:=by
 show N7 P _ K f w=_;unfold N7;simp only[execOp,dt3];generalize(Instr.range t (ev f x)).run P w=r;cases r<;>rfl
theorem cc8{x:Operand}{s:Bool}:B1 P none ⟨d,.next x s,ty,pos,aft,none⟩ K f w=ad7 ((Instr.next (ev f x) s ty).run P w) K f d:=by
 show N7 P _ K f w=_;unfold N7;simp only[execOp,dt3];generalize(Instr.next (ev f x) s ty).run P w=r;cases r<;>rfl
theorem cy3{x:Operand}:B1 P none ⟨d,.entry x,ty,pos,aft,none⟩ K f w=ad7 ((Instr.entry (ev f x)).run P w) K f d:=by
 show N7 P _ K f w=_;unfold N7;simp only[execOp,dt3];generalize(Instr.entry (ev f x)).run P w=r;cases r<;>rfl
end
open Go.ChangeMaps (setBlock)
structure RgI (w:World) (it r:Nat) (es:Array MapEntry) (clock:Nat) (D:List Nat):Prop where
 cur:∃c0,clock≤c0∧w.heap[it]?=some (.mapIter (some r) clock (D.map fun j=>(es.getD j default).born).toArray c0)
 map:w.heap[r]?=some (.map es clock)
 born:∀x∈es.toList,x.born<clock
 nd:(es.toList.map (·.born)).Nodup
 dn:D.Nodup
 dl:∀j∈D,j<es.size
theorem RgI.mod{w w':World}{it r:Nat}{es:Array MapEntry}{clock:Nat}{D:List Nat}{M:Nat→Prop}(s:RgI w it r es clock D)(h:t8 M w w')(h1:¬M it)(h2:¬M r):RgI w' it r es clock D:=by
 obtain⟨c0,hc,e⟩:=s.cur;exact⟨⟨c0,hc,(h.block it (dr3.1 e).1 h1).trans e⟩,(h.block r (dr3.1 s.map).1 h2).trans s.map,s.born,s.nd,s.dn,s.dl⟩
theorem bC0{w:World}{it:Nat}{o:Obj}:t8 (fun b=>b=it) w (setBlock w it o):=bC2 w it o
theorem RgI.next{P:Program}{w:World}{it r:Nat}{es:Array MapEntry}{clock:Nat}{D:List Nat}(s:RgI w it r es clock D)(hne:it≠r)(ty:TypeId):
  ((∀j,j<es.size→j∈D)∧(Instr.next (.pointer (some ⟨it,0,none⟩)) false ty).run P w = .ok (.tuple #[.bool false]) w) ∨
  ∃(j:Nat) (e:MapEntry) (w':World),es[j]?=some e∧j∉D∧(Instr.next (.pointer (some ⟨it,0,none⟩)) false ty).run P w = .ok (.tuple #[.bool true,e.key,e.val]) w'∧RgI w' it r es clock (D++[j])∧t8 (fun b=>b=it) w w' ∧
   (∀w'',t8 (fun b=>b≠it∧b≠r) w' w''→(Instr.entry (.pointer (some ⟨it,0,none⟩))).run P w'' = .ok (.tuple #[e.key,e.val]) w''):=by
 obtain⟨c0,hc,e⟩:=s.cur;have hb:∀j k,j<es.size→k<es.size→(es.getD j default).born=(es.getD k default).born→j=k:=fun j k hj hk h=>by
  have h3:=dz0.1 s.nd;have hg:∀j (hj:j<es.size),(es.toList.map (·.born))[j]'(by simpa using hj)=(es.getD j default).born:=fun j hj=>by
   simp[Array.getD,hj]
  rcases Nat.lt_trichotomy j k with h1|h1|h1
  ·exact absurd (by rw[hg j hj,hg k hk];exact h) (h3 j k (by simpa using hj) (by simpa using hk) h1)
  ·exact h1
  ·exact absurd (by rw[hg j hj,hg k hk];exact h.symm) (h3 k j (by simpa using hk) (by simpa using hj) h1)
 have hin:∀j,j<es.size→(((D.map fun j=>(es.getD j default).born).toArray.contains (es.getD j default).born)=true↔j∈D):=fun j hj=>by
  rw[←Array.contains_toList,dt6,dt7];constructor
  ·rintro⟨k,hk,h⟩;have:=hb k j (s.dl k hk) hj h;rw[←this];exact hk
  ·exact fun h=>⟨j,h,rfl⟩
 rcases run_next_at (P:=P) w ty it r clock c0 _ es clock e s.map s.born hc with⟨h1,h2⟩|⟨x,hx,w1,hw1,hrun⟩
 ·left;refine⟨fun j hj=>?_,h2⟩;refine dB3 fun hnj=>?_;have h0:leftOf es (D.map fun j=>(es.getD j default).born).toArray=#[]:=Array.eq_empty_of_size_eq_zero h1;unfold leftOf at h0;rw[Array.filter_eq_empty_iff]at h0;have h3:=h0 es[j] (Array.getElem_mem hj);have h4:es.getD j default=es[j]:=by simp[Array.getD,hj]
  have h5:=hin j hj;rw[h4]at h5;rw[Bool.not_eq_true',dB2]at h3;exact hnj (h5.1 (Classical.not_not.1 h3))
 ·right;unfold leftOf at hx;have hx':x∈es.toList∧(!(D.map fun j=>(es.getD j default).born).toArray.contains x.born)=true:=by simpa using hx
  obtain⟨j,hj,rfl⟩:=dw5.1 hx'.1;have hj':j<es.size:=by simpa using hj
  have hget:es.getD j default=es.toList[j]:=by simp[Array.getD,hj']
  have hnj:j∉D:=fun h=>by
   have:=(hin j hj').2 h;rw[hget]at this;rw[this]at hx';simp at hx'
  have hM1:t8 (fun b=>b=it) w w1:=by
   rcases hw1 with rfl|rfl
   ·exact t8.refl _
   ·exact t8.up (o7.drew w)
  have hitl:it<w1.heap.size:=dw9 (dr3.1 e).1 hM1.size;have hseen:((D.map fun j=>(es.getD j default).born).toArray.push es.toList[j].born)=((D++[j]).map fun j=>(es.getD j default).born).toArray:=by
   rw[du1,←hget];simp
  have hmod:t8 (fun b=>b=it) w (setBlock w1 it (.mapIter (some r) clock ((D.map fun j=>(es.getD j default).born).toArray.push es.toList[j].born) clock)):=hM1.trans bC0;have hmap':=(hmod.block r (dr3.1 s.map).1 fun h=>hne h.symm).trans s.map;have hit':(setBlock w1 it (.mapIter (some r) clock ((D.map fun j=>(es.getD j default).born).toArray.push es.toList[j].born) clock)).heap[it]?=some (.mapIter (some r) clock ((D.map fun j=>(es.getD j default).born).toArray.push es.toList[j].born) clock):=by
   show(w1.heap.setIfInBounds it _)[it]?=_;simp[hitl]
  refine⟨j,es.toList[j],_,by rw[dz9 hj'];simp,hnj,hrun,⟨⟨clock,ds5 _,by rw[←hseen];exact hit'⟩,hmap',s.born,s.nd,?_,fun k hk=>?_⟩,hmod,fun w'' h=>?_⟩
  ·rw[dw0];exact⟨s.dn,by simp,fun a ha b hb=>by simp at hb;subst hb;rintro rfl;exact hnj ha⟩
  ·rcases ds4.1 hk with h|h
   ·exact s.dl k h
   ·simp at h;subst h;exact hj'
  ·exact run_entry_at (P:=P) w'' it r clock _ es clock es.toList[j] ((h.block it (dr3.1 hit').1 fun h=>h.1 rfl).trans hit') ((h.block r (dr3.1 hmap').1 fun h=>h.2 rfl).trans hmap') (dr5 hj) s.nd
end
theorem cf5(a:Addr)(p:Pg)(i:Nat)(w:World)(ha:At (i4 w) a (y5 p))(hr:E8 p)(hw:D1 p≤1000000)(hi:i<p.procs.length):
  p7 prog 47 #[.pointer (some a),.int .i64 i] w fun u w'=>(B0 (i4 w) w' 97 u ((y5 p).flows (i:Int))∧o7 w w'):=by
 refine p8 [.pointer (some a),.int .i64 i] func47 rfl ?_;obtain⟨x,pt⟩:=O8 hr.may hw i hi;have hwy:=V0 pt;generalize x+A5 p.procs[i].body=y at pt hwy;have h200:=G9 hr.may;have hn:=hwy.n;have hlen:=pt.ok.len;have hle':=pt.ok.le;have hdl:=aO3 hr hw hi hwy;have hrg:=bz2 hr hw hi hwy;have hdl':(E2 (b9 p) i).data.length≤10000000:=dr7 hdl (by decide);obtain⟨M,hM⟩:∃M:Nat,(E2 (b9 p) i).n=(M:Int):=by
  generalize(E2 (b9 p) i).n=wn at hn;exact⟨wn.toNat,by omega⟩
 have hM202:M≤202:=by rw[hM]at hn;clear hdl hdl';omega
 have hbw:(y5 p).way (i:Int)=E2 (b9 p) i:=T9 hi;have hbM:((y5 p).way (i:Int)).n.toNat=M:=by rw[hbw,hM,dt5]
 have hinj:br1 ((y5 p).way (i:Int)):=by rw[hbw];exact cT4 hwy.toWyOk h200
 have hplc:∀a:Nat,a<((y5 p).way (i:Int)).n.toNat→plc (((y5 p).way (i:Int)).place a):=by rw[hbw];exact cT5 hwy.toWyOk h200
 have hgr:∀k:Nat,k<((y5 p).way (i:Int)).n.toNat→((y5 p).gives (i:Int) (k:Int)).Nodup∧((y5 p).gives (i:Int) (k:Int)).length≤100:=fun k hk=>by
  rw[hbM]at hk;have h:=aM0 hr hw hi (k:=k) (by rw[hM];exact Int.ofNat_lt.2 hk);exact⟨aq3 h.1,h.2⟩
 have htk:=fun(c:Nat) (hc:c<M)=>bV6 hr hw hi (k:=c) (by rw[hM];exact Int.ofNat_lt.2 hc);obtain⟨sh,vw,_,_,_,_,has,hvw,_,_,_,_,ldb,_⟩:=ha.book rfl;obtain⟨aw,hcw,haw⟩:=ay1 (hv:=hvw) (k:=i) (p:=⟨E2 (b9 p) i⟩) (by show((J2 p).map fun w=>(⟨w⟩:Ptr Wy))[i]?=_;rw[du5,W6 hi];rfl);simp only at haw;have hinw:=hvw.inS (k:=i) (by show i<((J2 p).map fun w=>(⟨w⟩:Ptr Wy)).length;unfold J2;simpa using hi);obtain⟨_,_,_,_,_,_,ldw,_⟩:=haw.wy;have lb:=ldb w (d7 _);have hlw:=G1 (P:=prog) (t:=126) hcw (d7 _) az2;simp only[i5,n8,z6,simprocAttr,lb,hinw,hlw];refine z7 (bD5 aw _ p i x y w haw hr hw hi hwy) ?_;rintro vd w1 ⟨hod,hx1⟩;simp only[i5,simprocAttr];refine z7 (am5 aw _ p i x y vd _ w1 (haw.mono (b7 hx1)) hwy.toWyOk (hod.rw_ (b7 hx1)) hrg hdl') ?_;rintro vp w2 ⟨hop,hx2⟩;have hvp:=hop.rw_ (b7 hx2);clear hdl hdl' hrg;simp only[i5,simprocAttr];refine z7 (cj8 a p i w2 (ha.mono (b7 (hx1.trans hx2))) hr hw hi) ?_;rintro _ w3 ⟨r,kv,cn,rfl,hG⟩;have hx03:=hx1.trans (hx2.trans hG.ext);have lw:=ldw w3 (b7 hx03);simp only[hM]at lw;have hz:A3.enc (i4 w3) (Value.slice none 0 0).cells.toList ([]:List A7):=aB4 _;obtain⟨vt,w4,m1,ot4,x4,f4,_⟩:=mk (P:=prog) (w:=w3) (h:=i4 w3) (α:=List A7) cd3 bN4 (y:=[]) hz (n:=M) (by omega) (by omega) (d7 _);obtain⟨il,hil,hil1⟩:=aS5 (P:=prog) bN4 cC4;have hSt:=ot4.isS;have hnt:=ot4.vlen;rw[dv9]at hnt;simp only[i5,n8,simprocAttr,lw,m1,hSt,hnt];have hN4:∀b,A4 vt b→w3.heap.size≤b∧b<w4.heap.size:=fun b hb=>⟨f4 b hb,ot4.lt hb⟩;have ot4':=ot4.reNo (aH1 x4 fun b hb=>(hN4 b hb).1) (fun b hb=>hb);rw[bU2 (fun c=>(y5 p).takes (i:Int) (c:Int)) M]at ot4';refine n9 [0,1,5,6,7,8,10,41] (σ:=Nat) (fun k f w'=>f 42 = .int .i64 k∧k≤M∧B0 (B7 w' (A4 vt)) w' 22 vt (aA8 (fun c=>(y5 p).takes (i:Int) (c:Int)) M k)∧o7 w3 w'∧w4.heap.size≤w'.heap.size) (fun k=>M-k) 0 ?_ ?_
 ·simp only[p6,simprocAttr];exact⟨by first|rfl|trivial,dr8 _,ot4',x4,ds5 _⟩
 rintro k f w5 hk ⟨h42,hkl,ot5,hx35,hs5⟩;simp only[dq9,p6,simprocAttr]at hk;obtain⟨e0,e1,e5,e6,e7,e8,e10,e41,_⟩:=hk;have hx05:=hx03.trans hx35;simp only[i5,n8,simprocAttr,h42,e41];refine m8 (fun hc=>?_) (fun hc=>?_)
 ·have hltk:k<M:=by simpa using hc
  simp only[i5,simprocAttr,h42,e0,e1,e10];refine z7 (cg2 (i4 w) a p i k w5 ha (b7 hx05) hr hw hi (by rw[hM];exact Int.ofNat_lt.2 hltk)) ?_;rintro u w6 ⟨hu,hx6⟩;have huN:R (B7 w6 (A4 vt)) u ((y5 p).takes (i:Int) (k:Int)):=A3.mono (ca7 (b7 hx05) hx6 fun b hb=>⟨dw9 (hN4 b hb).2 hs5,be5 (dr7 hx03.size (hN4 b hb).1)⟩) hu;have ot6:=(ot5.ext hx6).up (G6 hx6 (fun _ h=>h.elim) fun _ h=>.inl h) fun b hb=>H3 hb;obtain⟨w7,s1,ot7,hm7,hs7⟩:=D9 (P:=prog) (t:=22) ot6 rfl (k:=k) (by rw[aW3];exact hltk) (x:=u) (y:=(y5 p).takes (i:Int) (k:Int)) huN (D8 huN.isS) hil hil1;have ot7':=ot7.up (G6 hm7 (fun _ h=>h) fun _ h=>.inl h) fun b hb=>H3 hb;have hin:=ot6.inS (k:=k) (by rw[aW3];exact hltk);rw[cn4 (T:=fun c=>(y5 p).takes (i:Int) (c:Int))]at ot7';have hs6:=hx6.size;simp only[i5,n8,z6,simprocAttr,h42,hin,s1];exact⟨k+1,by omega,by rw[A8 k (by omega)],by omega,ot7',t8.ext_of (hx35.trans hx6) hm7 fun b hb=>(hN4 b hb).1,by omega⟩
 have hge:M=k:=by simp at hc;omega
 subst hge;have hvt:=ot5.rw_ (B3 _ _);have hvp5:=A3.mono (b7 (hG.ext.trans hx35)) hvp;have hG5:=hG.more hx35;obtain⟨es,clock,hes,hkv,hknd,hborn,hbnd⟩:=hG5.map;have hrun:=run_range_map (P:=prog) w5 146 _ _ r es clock Tryz.underlying146 hes;have hxa:=o7.alloc w5 (.mapIter (some r) clock #[] clock);have hr0:RgI (w5.alloc (.mapIter (some r) clock #[] clock)) w5.heap.size r es clock []:=⟨⟨clock,ds5 _,dv4 _ _⟩,((o7.alloc _ _).block _ (dr3.1 hes).1 id).trans hes,hborn,hbnd,List.nodup_nil,by simp⟩;generalize w5.alloc (.mapIter (some r) clock #[] clock)=w6 at hrun hxa hr0;have hrlt:r<w5.heap.size:=(dr3.1 hes).1;have hkl2:kv.length=es.size:=by
  have:=ds7 List.length hkv;simpa using this.symm
 have hkeysG:∀n,(y5 p).givers (i:Int) n≠[]↔n∈kv.map (·.1):=fun n=>by
  have hgn:cu8 p i n=((y5 p).givers (i:Int) n).map fun(a:Nat)=>(a:Int):=rfl;constructor
  ·intro h;cases e:L5 kv n with
   | none=>
    have:=hG5.no n e;rw[hgn,List.map_eq_nil_iff]at this;exact absurd this h
   | some v=>exact dt7.2 ⟨_,cu7 e,rfl⟩
  ·intro h e;obtain⟨⟨m,v⟩,h1,rfl⟩:=dt7.1 h;have:=(hG5.row m v (bG8 hknd h1)).2;rw[hgn]at this;simp only at e;rw[e]at this;exact this rfl
 have hkl3:kv.length≤M*100:=by
  have h:=cw4 (b:=y5 p) (i:=(i:Int)) hknd (fun n hn=>(hkeysG n).2 hn) fun a ha=>(hgr a ha).2;rw[hbM,dr9]at h;exact h
 simp only[i5,simprocAttr,e8,cy4,hrun];have hne:w5.heap.size≠r:=fun e=>by omega
 refine n9 [0,1,5,7,10,54] (σ:=List Nat×Value) (fun s f w'=>f 6=s.2∧RgI w' w5.heap.size r es clock s.1∧o7 w5 w'∧B0 (i4 w5) w' 97 s.2 ((s.1.map (bq5 kv)).flatMap (ak7 (y5 p) (i:Int)))∧(∀b,A4 s.2 b→b≠w5.heap.size)) (fun s=>es.size-s.1.length) ([],.slice none 0 0) ?_ ?_
 ·simp only[p6,simprocAttr];exact⟨e6,hr0,hxa,B0.nil _ _ _,fun b hb=>absurd hb C6⟩
 rintro⟨D,vo⟩ f7 w7 hk ⟨h6,hrg7,hx57,ho7,hvo7⟩;simp only at h6 hrg7 ho7 hvo7;simp only[dq9,p6,simprocAttr]at hk;obtain⟨g0,g1,g5,g7,g10,g54,_⟩:=hk;rw[e0]at g0;rw[e1]at g1;rw[e5]at g5;rw[e7]at g7;rw[e10]at g10;have hDl:D.length≤es.size:=by
  have:=M9 (m:=List.range es.size) hrg7.dn fun j hj=>dv0.2 (hrg7.dl j hj)
  rwa [dw7]at this
 have hpre:((D.map (bq5 kv)).flatMap (ak7 (y5 p) (i:Int))).length≤824240800:=by
  have h:=aG9 (l:=D.map (bq5 kv)) (f:=ak7 (y5 p) (i:Int)) (B:=M*M) fun n _=>by
   have:=cj3 (y5 p) (i:Int) n
   rwa [hbM]at this
  rw[dr9]at h;have h1:D.length≤20200:=by omega
  have h2:M*M≤202*202:=Nat.mul_le_mul hM202 hM202;have h3:D.length*(M*M)≤20200*(202*202):=Nat.mul_le_mul h1 h2;exact dr7 h (dr7 h3 (by decide))
 rcases hrg7.next (P:=prog) hne 0 with⟨hall,hnx⟩|⟨j,e,w8,hje,hnj,hnx,hrg8,hm8,hent⟩
 ·simp only[i5,simprocAttr,g54,cc8,hnx,h6];refine z7 (bV0 ho7 (by omega) fun s hs t ht h1 h2=>?_) ?_
  ·obtain⟨n,_,hs⟩:=dw1.1 hs;obtain⟨m,_,ht⟩:=dw1.1 ht;exact cj4 hplc hs ht h1 h2
  rintro u9 w9 ⟨ho9,hm9⟩;simp only[i5,simprocAttr,h6];refine o6 results47 ?_;simp only[p6,simprocAttr];have hkn:(D.map (bq5 kv)).Nodup:=by
   rw[List.Nodup,List.pairwise_map];refine List.Pairwise.imp_of_mem (fun{j q} hj hq hne e=>?_) hrg7.dn;exact hne (cw3 hknd (by have:=hrg7.dl j hj;omega) (by have:=hrg7.dl q hq;omega) e)
  have hperm:=bQ9 hinj (fun a ha=>(hgr a ha).1) hkn fun n hn=>by
   have h1:=(hkeysG n).1 hn;obtain⟨q,hq,hqe⟩:=dw5.1 h1;refine dt7.2 ⟨q,hall q (by rw[dr9]at hq;omega),?_⟩;rw[←hqe,dA2,aP6 (dq7 (by simpa using hq))]
  rw[cu5 hinj (fun a ha=>(hgr a ha).1) hplc hperm]at ho9;exact⟨ho9.backN hx05,t8.ext_of (hx05.trans hx57) hm9 fun b hb=>dr7 hx05.size (D0 (ho7.free hb))⟩
 generalize hP:(D.map (bq5 kv)).flatMap (ak7 (y5 p) (i:Int))=pre at ho7 hpre;obtain⟨⟨n,v⟩,hq,hek,hev⟩:∃q:A7×Value,kv[j]?=some q∧e.key=o9 q.1∧e.val=q.2:=by
  have h1:=ds7 (fun l=>l[j]?) hkv;simp only[du5,dC8,hje,dx7]at h1;obtain⟨q,h2,h3⟩:=Option.map_eq_some_iff.1 h1.symm;exact⟨q,h2,(ds7 Prod.fst h3).symm,(ds7 Prod.snd h3).symm⟩
 simp only at hek hev;have hkey:bq5 kv j=n:=aP6 hq;obtain⟨hov,_⟩:=hG5.row n v (bG8 hknd (ds9 hq));have hent':=hent w8 (t8.refl _);rw[hek,hev]at hent' hnx;have hx58:o7 w5 w8:=t8.ext_of hx57 hm8 fun b hb=>by subst hb;exact ds5 _
 have ho8:=ho7.mod hm8 fun b hb h=>hvo7 b hb h;have hvat5:R (i4 w5) v (((y5 p).givers (i:Int) n).map fun(a:Nat)=>(a:Int)):=hov.rw_ (b7 (hG.ext.trans hx35));have hvat8:R (i4 w8) v (((y5 p).givers (i:Int) n).map fun(a:Nat)=>(a:Int)):=A3.mono (b7 hx58) hvat5;have hvp8:=A3.mono (b7 hx58) hvp5;have hDj:D.length+1≤es.size:=by
  have:=M9 (m:=List.range es.size) hrg8.dn fun q hq=>dv0.2 (hrg8.dl q hq)
  rwa [dw7,dr1,du0]at this
 simp only[i5,simprocAttr,g54,cc8,cy3,hnx,hent',g0,g1,g7];refine z7 (ch8 a p i vp v ((y5 p).givers (i:Int) n) w8 (ha.mono (b7 (hx05.trans hx58))) hr hw hi hvp8 hvat8 (aP1 _ _ _) (fun A hA=>by have:=af9 _ _ _ A hA;rw[hbM]at this;rw[hM];exact Int.ofNat_lt.2 this)) ?_;rintro vs w9 ⟨⟨sol,hsol,hsl,hrow⟩,hx9⟩;rw[hM]at hsl;simp only[hM]at hrow;have hsl':sol.length=M:=by omega
 have hrow':∀c:Nat,c<M→C1 sol c=(ak8 (y5 p) (i:Int) n c).map fun(f:Nat)=>(f:Int):=fun c hc=>by
  obtain⟨g,h1,h2⟩:=hrow c (Int.ofNat_lt.2 hc);have e:(List.range ((y5 p).givers (i:Int) n).length).filter g=ak8 (y5 p) (i:Int) n c:=by
   unfold ak8;refine List.filter_congr fun f hf=>?_;have hf':=dv0.1 hf;have h3:=h2 f _ (dq7 hf');have h4:((y5 p).givers (i:Int) n).getD f 0=((y5 p).givers (i:Int) n)[f]:=by rw[List.getD,dq7 hf'];rfl
   rw[h4,dD8];exact h3
  rw[h1,e]
 have hSs:=hsol.isS;have hns:=hsol.vlen;rw[hsl']at hns;have ho9:=ho8.ext hx9;have hrg9:=hrg8.mod hx9 (fun h=>h) (fun h=>h);have hitl:w5.heap.size<w9.heap.size:=by
  obtain⟨_,_,h⟩:=hrg9.cur;exact(dr3.1 h).1
 simp only[i5,n8,simprocAttr,hSs,hns];refine n9 [0,1,5,7,10,12,13,54,64,65] (σ:=Nat×Value) (fun s f w'=>f 66 = .int .i64 s.1∧f 6=s.2∧s.1≤M∧B0 (i4 w5) w' 97 s.2 (pre++(List.range s.1).flatMap (aA0 (y5 p) (i:Int) n))∧t8 (fun b=>w5.heap.size≤b∧b≠w5.heap.size∧(b<w8.heap.size∨w9.heap.size≤b)) w9 w'∧(∀b,A4 s.2 b→w5.heap.size≤b∧b≠w5.heap.size∧(b<w8.heap.size∨w9.heap.size≤b))) (fun s=>M-s.1) (0,vo) ?_ ?_
 ·simp only[p6,simprocAttr];exact⟨by first|rfl|trivial,h6,dr8 _,by rw[List.range_zero,List.flatMap_nil,du2];exact ho9,t8.refl _,fun b hb=>⟨D0 (ho8.free hb),hvo7 b hb,.inl (ho8.lt hb)⟩⟩
 rintro⟨c,v3⟩ f9 w10 hk ⟨h66,h6c,hcl,ho10,hm10,hvo10⟩;simp only at h66 h6c hcl ho10 hvo10;simp only[dq9,p6,simprocAttr]at hk;obtain⟨k0,k1,k5,k7,k10,k12,k13,k54,k64,k65,_⟩:=hk;rw[g0]at k0;rw[g1]at k1;rw[g5]at k5;rw[g7]at k7;rw[g10]at k10;rw[g54]at k54;simp only[i5,n8,simprocAttr,h66,k65];refine m8 (fun hc3=>?_) (fun hc3=>?_);rotate_left
 ·have hge:c=M:=by simp at hc3;omega
  simp only[i5,simprocAttr];have hrg10:=hrg9.mod hm10 (fun h=>h.2.1 rfl) (fun h=>by have:=h.1;omega);have hx510:=t8.ext_of (hx58.trans hx9) hm10 fun b hb=>hb.1;refine⟨(D++[j],v3),by simp only[dr1,du0];omega,h6c,hrg10,hx510,?_,fun b hb=>(hvo10 b hb).2.1⟩;simp only[];rw[du1,dC2,hP,dv6,List.map_nil,hkey,dA4,List.flatMap_nil,du2];have:ak7 (y5 p) (i:Int) n=(List.range c).flatMap (aA0 (y5 p) (i:Int) n):=by unfold ak7;rw[hbM,hge]
  rw[this];exact ho10
 have hlt3:c<M:=by simpa using hc3
 obtain⟨ur,hur,hcr⟩:=R.row hsol (k:=c) (cA3 (by omega));rw[hrow' c hlt3]at hur;have hN9:=hm10.weaken (N:=fun b=>b<w8.heap.size) fun b hb h=>by rcases h.2.2 with h|h<;>omega
 have hinr:=hsol.inS (k:=c) (by omega);have hldr:=G1 (P:=prog) (t:=112) hcr (C8 hN9) R0;have hSr:=hur.isS;have hnr:=hur.vlen;rw[dr9]at hnr;obtain⟨ut,hut,hct⟩:=R.row hvt (cn3 (T:=fun c=>(y5 p).takes (i:Int) (c:Int)) hlt3);have hint:=hvt.inS (k:=c) (by rw[aW3];exact hlt3);have hp3:(pre++(List.range c).flatMap (aA0 (y5 p) (i:Int) n)).length≤824240800+202*202:=by
  rw[dr1];have h:=bi0 (y5 p) (i:Int) n c;rw[hbM]at h;have h2:c*M≤202*202:=Nat.mul_le_mul (by omega) hM202;exact Nat.add_le_add hpre (dr7 h h2)
 have hfll:=bt6 (y5 p) (i:Int) n c;rw[hbM]at hfll;have hfC:aA0 (y5 p) (i:Int) n c=(ak8 (y5 p) (i:Int) n c).flatMap (Y6 (y5 p) (i:Int) n c):=rfl;have hflt:∀f∈ak8 (y5 p) (i:Int) n c,f<((y5 p).givers (i:Int) n).length:=fun f hf=>by
  unfold ak8 at hf;exact dv0.1 (dv2.1 hf).1
 generalize ak8 (y5 p) (i:Int) n c=fl at hur hnr hfll hfC hflt;generalize hP3:pre++(List.range c).flatMap (aA0 (y5 p) (i:Int) n)=pre3 at ho10 hp3;simp only[i5,n8,z6,simprocAttr,h66,k64,hinr,hldr,hSr,hnr];refine n9 [0,1,5,7,10,12,13,14,54,64,65,66,71,72] (σ:=Nat×Value) (fun s f w'=>f 73 = .int .i64 s.1∧f 6=s.2∧s.1≤fl.length∧B0 (i4 w5) w' 97 s.2 (pre3++(fl.take s.1).flatMap (Y6 (y5 p) (i:Int) n c))∧t8 (fun b=>w5.heap.size≤b∧b≠w5.heap.size∧(b<w8.heap.size∨w9.heap.size≤b)) w9 w'∧(∀b,A4 s.2 b→w5.heap.size≤b∧b≠w5.heap.size∧(b<w8.heap.size∨w9.heap.size≤b))) (fun s=>fl.length-s.1) (0,v3) ?_ ?_
 ·simp only[p6,simprocAttr];exact⟨by first|rfl|trivial,h6c,dr8 _,by rw[dC6,List.flatMap_nil,du2];exact ho10,hm10,hvo10⟩
 rintro⟨q,v4⟩ f11 w11 hk ⟨h73,h6q,hql,ho11,hm11,hvo11⟩;simp only at h73 h6q hql ho11 hvo11;simp only[dq9,p6,simprocAttr]at hk;obtain⟨l0,l1,l5,l7,l10,l12,l13,l14,l54,l64,l65,l66,l71,l72,_⟩:=hk;rw[k5]at l5;rw[k10]at l10;rw[k12]at l12;rw[k13]at l13;rw[h66]at l66;simp only[i5,n8,simprocAttr,h73,l72];refine m8 (fun hc4=>?_) (fun hc4=>?_);rotate_left
 ·have hge:q=fl.length:=by simp at hc4;omega
  rw[hge,ds2]at ho11;simp only[i5,n8,simprocAttr,l66];refine⟨(c+1,v4),by simp only[];omega,by simp only[];rw[A8 c (by omega)],h6q,by simp only[];omega,?_,hm11,hvo11⟩;simp only[];rw[dB9,dC2,←dt4,hP3,dA4,List.flatMap_nil,du2,hfC];exact ho11
 have hltq:q<fl.length:=by simpa using hc4
 have hx511:o7 w5 w11:=t8.ext_of (hx58.trans hx9) hm11 fun b hb=>hb.1;have hN11:=hm11.weaken (N:=fun b=>b<w8.heap.size) fun b hb h=>by rcases h.2.2 with h|h<;>omega
 have hur11:R (i4 w11) ur (fl.map fun(f:Nat)=>(f:Int)):=A3.mono (C8 hN11) hur;have hinq:=hur11.inS (k:=q) (by rw[dr9];exact hltq);have hldq:=aJ6 hur11 (d7 _) (k:=q) (by rw[dr9];exact hltq);rw[dA2]at hldq;have hldt:=G1 (P:=prog) (t:=22) hct (b7 hx511) N0;have hfg:=hflt _ (dr5 hltq);have htq:=I9 (Y6 (y5 p) (i:Int) n c) fl hltq;have hp4:(pre3++(fl.take q).flatMap (Y6 (y5 p) (i:Int) n c)).length≤824240800+202*202+202:=by
  rw[dr1];have h:=aG9 (l:=fl.take q) (f:=Y6 (y5 p) (i:Int) n c) (B:=1) fun f _=>bi1 _ _ _ _ f;rw[ds3,dA7]at h;omega
 generalize fl[q]=f at hldq hfg htq;have hvat11:R (i4 w11) v (((y5 p).givers (i:Int) n).map fun(a:Nat)=>(a:Int)):=A3.mono (b7 hx511) hvat5;have hinv:=hvat11.inS (k:=f) (by rw[dr9];exact hfg);have hldv:=aJ6 hvat11 (d7 _) (k:=f) (by rw[dr9];exact hfg);rw[dA2]at hldv;have hgd:((y5 p).givers (i:Int) n).getD f 0=((y5 p).givers (i:Int) n)[f]:=by rw[List.getD,dq7 hfg];rfl
 have hAM:=af9 _ _ _ _ (dr5 hfg);rw[hbM]at hAM;have hfo:Y6 (y5 p) (i:Int) n c f=if((y5 p).takes (i:Int) (c:Int)).contains n then[⟨(E2 (b9 p) i).place ((((y5 p).givers (i:Int) n)[f]:Nat):Int),(E2 (b9 p) i).place (c:Int),n⟩]else[]:=by
  unfold Y6;rw[hgd,hbw]
 generalize((y5 p).givers (i:Int) n)[f]=A at hldv hAM hfo;have htr:=(htk c hlt3).1;have htl:((y5 p).takes (i:Int) (c:Int)).length≤1000000000:=dr7 (htk c hlt3).2 (by decide);simp only[i5,n8,z6,simprocAttr,h73,l71,hinq,hldq,l10,l14,hint,hldt,l12];refine C7 (ab9 ut _ n w11 (A3.mono (b7 hx511) hut) htl htr) ?_;clear htl htr;rcases dq8 (((y5 p).takes (i:Int) (c:Int)).contains n)with h|h;rotate_left
 ·rw[h,if_neg (by simp)]at hfo;simp only[i5,n8,simprocAttr,h,h73];refine⟨(q+1,v4),by simp only[];omega,by simp only[];rw[A8 q (by omega)],h6q,by simp only[];omega,?_,hm11,hvo11⟩;simp only[];rw[htq,hfo,du2];exact ho11
 rw[h,if_pos rfl]at hfo;simp only[i5,n8,z6,simprocAttr,h,h6q,l5,l13,hinv,hldv];refine z7 (ab5 aw _ p i x y (A:Int) w11 (haw.mono (b7 (hx05.trans hx511))) hwy.toWyOk ⟨by omega,by omega⟩) ?_;rintro _ w12 ⟨rfl,hx12⟩;simp only[i5,simprocAttr,l5,l14];refine z7 (ab5 aw _ p i x y (c:Int) w12 (haw.mono (b7 (hx05.trans (hx511.trans hx12)))) hwy.toWyOk ⟨by omega,by omega⟩) ?_;rintro _ w13 ⟨rfl,hx13⟩;have hx113:=hx12.trans hx13;generalize(E2 (b9 p) i).place (A:Int)=s1 at hfo;generalize(E2 (b9 p) i).place (c:Int)=d1 at hfo;obtain⟨p1,v5,w14,p2,p3,p4,p5⟩:=push (P:=prog) (t:=95) (e:=95) dd0 rfl (ho11.ext hx113) (x:=.agg (A6.cells (⟨s1,d1,n⟩:Fw)).toArray) (y:=⟨s1,d1,n⟩) (bF3 _) (by omega) (by omega) (b7 (hx511.trans hx113));simp only[Value.cells]at p1 p2;have h1113:=hm11.size;have hs113:=hx113.size;simp only[i5,n8,simprocAttr,h73,l12,cr1,p1,p2];refine⟨(q+1,v5),by simp only[];omega,by simp only[];rw[A8 q (by omega)],by trivial,by simp only[];omega,?_,(hm11.trans (t8.up hx113)).trans (p4.weaken fun b _ hb=>hvo11 b hb),fun b hb=>?_⟩
 ·simp only[];rw[htq,hfo,←dt4];exact p3
 ·rcases p5 b hb with h|h
  ·exact hvo11 b h
  ·exact⟨by omega,by omega,.inr (by omega)⟩
theorem aG1(a:Addr)(p:Pg)(i:Nat)(w:World)(ha:At (i4 w) a (y5 p))(hr:E8 p)(hw:D1 p≤1000000)(hi:i<p.procs.length):
  p7 prog 42 #[.pointer (some a),.int .i64 i] w fun u w'=>(∃ui uo,u = .tuple #[ui,uo]∧B0 (i4 w) w' 9 ui ((y5 p).slotsIn (i:Int))∧B0 (i4 w) w' 9 uo ((y5 p).slotsOut (i:Int))∧(∀b,A4 ui b→¬A4 uo b)∧o7 w w'):=by
 refine p8 [.pointer (some a),.int .i64 i] func42 rfl ?_;have hFi:(y5 p).slotsIn (i:Int)=S8 (F5 (Y8 p) (i:Int)++p.procs[i].params.map (·.name)):=by
  unfold Bk.slotsIn;rw[Z8 hi];rfl
 have hFo:(y5 p).slotsOut (i:Int)=S8 (F5 (J1 p) (i:Int)++[I3]):=rfl;obtain⟨sh,vw,vd,_,vi,vo,has,hvw,hvd,_,hvi,hvo,ldb,sdb⟩:=ha.book rfl;obtain⟨_,_,_,_,_,_,hpg,_,_⟩:=has.sh;rw[J0]at hpg;obtain⟨vg,vp,hvg,hvp,ldp,sdp⟩:=hpg.pg;have lb:=ldb w (d7 _);have hhw:∀w',o7 w w'→B5 (i4 w) (i4 w'):=fun w' hx=>b7 hx;obtain⟨hrow,hrise,hfew⟩:=(aH3 hr hw).row hi;generalize F5 (Y8 p) (i:Int)=row at hrow hrise hfew hFi;obtain⟨ui,hui,hci⟩:=R.row hvi (show(y5 p).ins[i]?=some row from hrow);have hini:=hvi.inS (k:=i) (show i<(Y8 p).length from(dr4.1 hrow).1);have hli:=G1 (P:=prog) (t:=22) hci (d7 _) N0;obtain⟨hrow2,hrise2,hfew2⟩:=(av1 hr.may).row hi;generalize F5 (J1 p) (i:Int)=row2 at hrow2 hrise2 hfew2 hFo;obtain⟨uo,huo,hco⟩:=R.row hvo (show(y5 p).outs[i]?=some row2 from hrow2);have hino:=hvo.inS (k:=i) (show i<(J1 p).length from(dr4.1 hrow2).1);simp only[i5,n8,z6,I0,I8.val,simprocAttr,lb,hini,hli];refine z7 (ao7 ui row w hui (by omega)) ?_;rintro u2 w2 ⟨ho2,hx2⟩;have lb2:=ldb w2 (hhw w2 hx2);have lp2:=ldp w2 (hhw w2 hx2);have hatp:=hvp.at_ (i:=i) (x:=p.procs[i]) (dq7 hi);have hinp:=hvp.inS (k:=i) hi;have hz5:A3.sz Pr=5:=rfl;rw[hz5]at hatp;obtain⟨vpa,_,_,_,hvpa,_,_,_,ldr,_⟩:=hatp.pr;have lr2:=ldr w2 (hhw w2 hx2);have hpl:=O4 hr.may hi;generalize p.procs[i].params=pas at hvpa hpl hFi;have hSp:=hvpa.isS;have hnp:=hvpa.vlen;simp only[i5,n8,z6,I0,I8.val,simprocAttr,lb2,lp2,hinp,lr2,hSp,hnp];refine n9 [0,1,27,28] (σ:=Nat×Value) (fun s f w'=>f 29 = .int .i64 s.1∧f 4=s.2∧s.1≤pas.length∧B0 (i4 w) w' 9 s.2 (row++(pas.take s.1).map (·.name))∧o7 w w') (fun s=>pas.length-s.1) (0,u2) ?_ ?_
 ·simp only[p6,simprocAttr];exact⟨by first|rfl|trivial,trivial,dr8 _,by simpa using ho2,hx2⟩
 rintro⟨j,u⟩ f w3 hk ⟨h29,h4,hjl,ho,hx3⟩;simp only at h29 h4 hjl ho;simp only[dq9,p6,simprocAttr]at hk;obtain⟨e0,e1,e27,e28,_⟩:=hk;simp only[i5,n8,z6,I0,I8.val,simprocAttr,h29,e27,e28];refine m8 (fun hc=>?_) (fun hc=>?_)
 ·have hlt:j<pas.length:=by simpa using hc
  have hin:=hvpa.inS hlt;obtain⟨sv,hsv,hld⟩:=E4 (P:=prog) (t:=68) hvpa (hhw w3 hx3) (dq7 hlt) bc8 bd1 aS7 aj3;rw[aj3]at hld;have htk:=aE3 (fun q:Pa=>q.name) pas hlt;generalize pas[j]=pa at hsv htk;obtain⟨d,wz,w4,hal,hst,hx4,hat⟩:=az7 (hsv.mono (hhw w3 hx3)) (d7 _);obtain⟨ld4,_⟩:=hat.pa;have l4:=ld4 w4 (d7 _);obtain⟨p1,u5,w5,p2,p3,p4,p5⟩:=av5 (e:=22) (ho.ext hx4) pa.name (by rw[dr1,dr9,ds3];omega) (b7 (hx3.trans hx4));simp only[i5,n8,z6,I0,I8.val,simprocAttr,h29,h4,e27,e28,hin,hld,hal,hst,l4,p1,p2];refine⟨(j+1,u5),by simp only[];omega,by simp only[];rw[A8 j (by omega)],by trivial,by simp only[];omega,?_,(ho.ext hx4).ext2 (hx3.trans hx4) p4⟩;simp only[];rw[htk,←dt4];exact p3
 have hge:j=pas.length:=by simp at hc;omega
 subst hge;rw[ds2]at ho;have lb3:=ldb w3 (hhw w3 hx3);have hlo:=G1 (P:=prog) (t:=22) hco (hhw w3 hx3) N0;simp only[i5,n8,z6,I0,I8.val,simprocAttr,e0,e1,lb3,hino,hlo];refine z7 (ao7 uo row2 w3 (A3.mono (hhw w3 hx3) huo) (by omega)) ?_;rintro u4 w4 ⟨ho4,hx4⟩;obtain⟨p1,u5,w5,p2,p3,p4,p5⟩:=av5 (e:=22) ho4 I3 (by omega) (b7 hx4);have p1':(Instr.buildSlice 22 1 #[(0,.string ⟨#[36,114,101,116]⟩)]).run prog w4=_:=p1;have hap4:∀b,A4 u b→¬A4 u4 b:=fun b h1 h2=>by
  have:=ho.lt h1;have:=D0 (ho4.free h2);omega
 have hap5:∀b,A4 u b→¬A4 u5 b:=fun b h1 h2=>by
  have:=ho.lt h1;have:=D0 (p3.free h2);omega
 have hoi5:=(ho.ext hx4).mod p4 hap4;have hx5:o7 w w5:=hx3.trans (ho4.ext2 hx4 p4);simp only[i5,n8,z6,I0,I8.val,simprocAttr,p1',p2,h4];refine z7 (an7 hoi5 (by rw[dr1,dr9];omega)) ?_;rintro u6 w6 ⟨ho6,hm6⟩;have hoo6:=(p3.mod hm6 fun b h1 h2=>hap5 b h2 h1).back hx3;simp only[i5,n8,z6,I0,I8.val,simprocAttr];refine z7 (an7 hoo6 (by rw[dr1,du0];omega)) ?_;rintro u7 w7 ⟨ho7,hm7⟩;simp only[i5,n8,z6,I0,I8.val,simprocAttr];refine af0 results42 ?_;simp only[p6,simprocAttr];rw[hFi,hFo];exact⟨u,u5,by rw[h4],ho6.mod hm7 hap5,ho7,hap5,hoo6.ext2 (hoi5.ext2 hx5 hm6) hm7⟩
theorem bT1(n:A7)(w:World):p7 prog 103 #[o9 n] w fun u w'=>(u = .bool (decide (n=I3))∧w'=w):=by
 refine p8 [o9 n] func103 rfl ?_;have he:=fun(P:Program) (t:TypeId)=>bY2 (P:=P) (t:=t) (a:=n) (b:=I3);have hg:o9 I3 = .string ⟨#[36,114,101,116]⟩:=rfl;simp only[hg]at he;simp only[i5,n8,simprocAttr,he];refine o6 results103 ?_;simp only[p6,simprocAttr];exact⟨by trivial,by trivial⟩
theorem cr7(q:A7)(k d:Int)(n:A7):B8 prog 36 [(0,o9 q),(1,.int .i64 k),(2,.int .i64 d),(3,o9 n)]=some (.agg (A6.cells (⟨q,k,d,n⟩:Vx)).toArray):=by
 simp[B8,cC0,J5,Instr.fill,Value.cells,o9];rfl
def G7(a:Addr)(i:Int)(q:A7)(c1 c2 c3 c4 vv ve:Value):Array Value:=#[.pointer (some a),.int .i64 i,o9 q,c1,c2,c3,c4,vv,ve]
theorem H4(gb:Nat)(T:TypeId)(cs0:Array Value)(q:A7)(k d:Int)(n:A7)(w:World)(hb:w.heap[gb]?=some (.cells cs0 T (0,0)))(hq:cs0[2]?=some (o9 q)):
  p7 prog 55 #[.pointer (some ⟨gb,0,none⟩),.int .i64 k,.int .i64 d,o9 n] w fun u w'=>(u = .agg (A6.cells (⟨q,k,d,n⟩:Vx)).toArray∧o7 w w'):=by
 refine p8 [.pointer (some ⟨gb,0,none⟩),.int .i64 k,.int .i64 d,o9 n] func55 rfl ?_;have hfc:A6.cells (⟨q,k,d,n⟩:Vx)=[o9 q,.int .i64 k,.int .i64 d,o9 n]:=rfl;obtain⟨h1,h2⟩:=aJ7 (P:=prog) (w:=w) (T:=36) bx1 rfl (cs:=#[o9 q,.int .i64 k,.int .i64 d,o9 n]) (by rw[W5];rfl) (by simp[Value.oneCell',o9]);have hbv:=cr7 q k d n;rw[hfc]at hbv ⊢;have hb1:=fun o=>((o7.alloc w o).block gb (dr3.1 hb).1 id).trans hb;have hl:=fun o=>E9 (P:=prog) (t:=9) (i:=2) (u:=o9 q) (hb1 o) hq W4;have hlda:=S9 (P:=prog) (T:=36) (dv4 w (.cells #[o9 q,.int .i64 k,.int .i64 d,o9 n] 36)) aF4 aF7 aB2 (by rw[W5];rfl);simp only[i5,n8,simprocAttr,h1,hl,hbv,h2];refine L6 results55 (ad:=⟨w.heap.size,0,none⟩) (by simp only[p6,simprocAttr]) hlda ?_;exact⟨rfl,o7.alloc _ _⟩
theorem BM.rebase{α β:Type}[A3 α][A3 β]{H H':Hp}{w0 wz w:World}{Z:Nat→Prop}{gb:Nat}{TB TX TY:TypeId}{cells:Value→Array Value}{vx vy:Value}{xs:List α}{ys:List β}(s:BM H w0 wz w Z gb TB TX TY cells vx vy xs ys)(h:B5 H' (B7 w (nB gb vx vy Z))):BM H' w0 wz w Z gb TB TX TY cells vx vy xs ys:=
 ⟨s.ext,s.ge,s.cb,s.ox,s.oy,s.dx,s.dy,s.dz,s.zk,s.sz,h⟩
abbrev PV(H:Hp)(w0 w:World)(gb:Nat)(a:Addr)(i:Int)(q:A7)(c1 c2 c3 c4 vx:Value)(xs:List Vx):Prop:=
 BM (α:=Vx) (β:=Int) H w0 w0 w (fun _=>False) gb 116 36 3 (fun v=>G7 a i q c1 c2 c3 c4 v (.slice none 0 0)) vx (.slice none 0 0) xs []
abbrev PE(H:Hp)(w0 w:World)(gb:Nat)(a:Addr)(i:Int)(q:A7)(c1 c2 c3 c4 vx:Value)(xs:List Eg):Prop:=
 BM (α:=Eg) (β:=Int) H w0 w0 w (fun _=>False) gb 116 60 3 (fun v=>G7 a i q c1 c2 c3 c4 (.slice none 0 0) v) vx (.slice none 0 0) xs []
abbrev nP(gb:Nat)(vx:Value):Nat→Prop:=nB gb vx (.slice none 0 0) fun _=>False
theorem cN7:∃inf,prog.info? 30=some inf∧inf.size=1:=aS5 df3 de8
theorem cZ7:∃inf,prog.info? 32=some inf∧inf.size=1:=aS5 df4 de9
theorem aH8(H:Hp)(gb:Nat)(a:Addr)(i:Int)(q:A7)(c1 c2 c3 c4 vx:Value)(xs:List Vx)(k d:Int)(u:Value)(ns:List A7)(w0 w:World)(s:PV H w0 w gb a i q c1 c2 c3 c4 vx xs)(hu:R (B7 w (nP gb vx)) u ns)(hl:xs.length+ns.length≤1000000):
  p7 prog 56 #[.pointer (some ⟨gb,0,none⟩),.int .i64 k,.int .i64 d,u] w fun r w'=>(∃vx',PV (B7 w (nP gb vx)) w0 w' gb a i q c1 c2 c3 c4 vx' (xs++ns.map fun n=>⟨q,k,d,n⟩)):=by
 refine p8 [.pointer (some ⟨gb,0,none⟩),.int .i64 k,.int .i64 d,u] func56 rfl ?_;have hS:=hu.isS;have hn:=hu.vlen;obtain⟨il,hil,hil1⟩:=cN7;simp only[i5,n8,simprocAttr,hS,hn];refine n9 [0,1,2,10,11] (σ:=Nat×Value) (fun t f w'=>f 12 = .int .i64 t.1∧t.1≤ns.length∧PV (B7 w (nP gb vx)) w0 w' gb a i q c1 c2 c3 c4 t.2 (xs++(ns.take t.1).map fun n=>⟨q,k,d,n⟩)) (fun t=>ns.length-t.1) (0,vx) ?_ ?_
 ·simp only[p6,simprocAttr];exact⟨by trivial,dr8 _,by simpa using s.rebase (d7 _)⟩
 clear s;rintro⟨j,v⟩ f w1 hk ⟨h12,hjl,s⟩;simp only at h12 hjl s;simp only[dq9,p6,simprocAttr]at hk;obtain⟨e0,e1,e2,e10,e11,_⟩:=hk;simp only[i5,n8,simprocAttr,h12,e11];refine m8 (fun hc=>?_) (fun hc=>?_);rotate_left
 ·have hge:j=ns.length:=by simp at hc;omega
  subst hge;rw[ds2]at s;simp only[i5,simprocAttr];refine cA1 results56 ?_;exact⟨v,s⟩
 have hlt:j<ns.length:=by simpa using hc
 have hin:=hu.inS hlt;have hld:=ldS hu s.hb hlt;have htk:=aE3 (fun n:A7=>(⟨q,k,d,n⟩:Vx)) ns hlt;have hxl:(xs++(ns.take j).map fun n=>(⟨q,k,d,n⟩:Vx)).length+1≤1000000:=by rw[dr1,dr9,ds3];omega
 generalize ns[j]=n at hld htk;generalize hys:xs++(ns.take j).map (fun n=>(⟨q,k,d,n⟩:Vx))=ys at s hxl;have s2:=s.more (o7.drew w1);have hcb:∀w',t8 (A4 v) w1.drew w'→w'.heap[gb]?=some (.cells (G7 a i q c1 c2 c3 c4 v (.slice none 0 0)) 116 (0,0)):=fun w' hm=>(hm.block gb (dr3.1 s2.cb).1 fun h=>(s2.dx gb h).2.1 rfl).trans s2.cb;have k7:∀K f d w0',I1 prog (fun w'=>t8 (A4 v) w1.drew w') (Instr.loadAt 30 (.pointer (some ⟨gb,7,none⟩))) K f d w0'=K (C4 f d v) w0':=fun K f d w0'=>D5 (w0:=w1.drew) (t8.refl _) fun w' h=>E9 (i:=7) (u:=v) (hcb w' h) rfl bM9;simp only[i5,n8,z6,simprocAttr,h12,e10,hin,hld];refine C0 (fun w'=>t8 (A4 v) w1.drew w') 12 (A9 [0,1,2,3,4,5,6,7,8,9,10,11]) ?_;simp only[D2,A9,i5,n8,simprocAttr,e0,e1,e2,k7];refine z7 (H4 gb _ _ q k d n w1.drew s2.cb rfl) ?_;rintro _ w3 ⟨rfl,hx3⟩;refine⟨t8.up hx3,?_⟩;have s3:=s2.more hx3;obtain⟨p1,v',w4,w5,p2,p3,s5,p4⟩:=s3.push (P:=prog) (e:=30) bL5 rfl (x:=.agg (A6.cells (⟨q,k,d,n⟩:Vx)).toArray) (y:=⟨q,k,d,n⟩) ((A6.iff_ _ _ _).2 rfl) (by omega) (by omega) (ix:=7) (by simp[G7]) (fun v v'=>by simp[G7]) hil hil1;simp only[D2,i5,n8,simprocAttr,p1,p2,F1];refine⟨(t8.up hx3).trans (t8.up (o7.alloc _ _)),(t8.up hx3).trans p4,?_⟩;simp only[i5,n8,simprocAttr,h12,p3];refine⟨(j+1,v'),by simp only[];omega,by simp only[];rw[A8 j (by omega)],by simp only[];omega,?_⟩;simp only[];rw[htk,←dt4,hys];exact s5
theorem cr0(x y:Vx)(k:Int):B8 prog 60 [(0,.agg (A6.cells x).toArray),(1,.agg (A6.cells y).toArray),(2,.int .i64 k)]=some (.agg (A6.cells (⟨x,y,k⟩:Eg)).toArray):=by
 have hx:∀x:Vx,A6.cells x=[o9 x.proc,.int .i64 x.kind,.int .i64 x.id,o9 x.slot]:=fun _=>rfl;have he:A6.cells (⟨x,y,k⟩:Eg)=[o9 x.proc,.int .i64 x.kind,.int .i64 x.id,o9 x.slot,o9 y.proc,.int .i64 y.kind,.int .i64 y.id,o9 y.slot,.int .i64 k]:=rfl;rw[hx,hx,he];simp[B8,de4,J5,Instr.fill,Value.cells,o9]
theorem ag4(H:Hp)(gb:Nat)(a:Addr)(i:Int)(q:A7)(c1 c2 c3 c4 vx:Value)(xs:List Eg)(x y:Vx)(k:Int)(w0 w:World)(s:PE H w0 w gb a i q c1 c2 c3 c4 vx xs)(hl:xs.length≤1000000000):
  p7 prog 62 #[.pointer (some ⟨gb,0,none⟩),.agg (A6.cells x).toArray,.agg (A6.cells y).toArray,.int .i64 k] w fun r w'=>(∃vx',PE H w0 w' gb a i q c1 c2 c3 c4 vx' (xs++[⟨x,y,k⟩])):=by
 refine p8 [.pointer (some ⟨gb,0,none⟩),.agg (A6.cells x).toArray,.agg (A6.cells y).toArray,.int .i64 k] func62 rfl ?_;obtain⟨il,hil,hil1⟩:=cZ7;obtain⟨a1,w1,hb1,hx1,hat1⟩:=bZ0 (w:=w) (A4 vx) (SV.ofN (i4 w) x) fun b hb=>s.ox.lt hb;have s1:=s.more hx1;obtain⟨a2,w2,hb2,hx2,hat2⟩:=bZ0 (w:=w1) (A4 vx) (SV.ofN (i4 w1) y) fun b hb=>s1.ox.lt hb;have s3:=(s1.more hx2).more (o7.drew w2);have hcb:∀w',t8 (A4 vx) w2.drew w'→w'.heap[gb]?=some (.cells (G7 a i q c1 c2 c3 c4 (.slice none 0 0) vx) 116 (0,0)):=fun w' hm=>(hm.block gb (dr3.1 s3.cb).1 fun h=>(s3.dx gb h).2.1 rfl).trans s3.cb;have k8:∀K f d w0',I1 prog (fun w'=>t8 (A4 vx) w2.drew w') (Instr.loadAt 32 (.pointer (some ⟨gb,8,none⟩))) K f d w0'=K (C4 f d vx) w0':=fun K f d w0'=>D5 (w0:=w2.drew) (t8.refl _) fun w' h=>E9 (i:=8) (u:=vx) (hcb w' h) rfl cP7;have t1:=(I2.vx_v (SV.ofN (i4 w) x) hat1).2 (fun w'=>t8 (A4 vx) w2.drew w') w2.drew (t8.refl _) fun w' h=>C8 ((t8.up (M:=A4 vx) (hx2.trans (o7.drew w2))).trans h);have t2:=(I2.vx_v (SV.ofN (i4 w1) y) hat2).2 (fun w'=>t8 (A4 vx) w2.drew w') w2.drew (t8.refl _) fun w' h=>C8 ((t8.up (M:=A4 vx) (o7.drew w2)).trans h);have hbe:=cr0 x y k;obtain⟨p1,v',w4,w5,p2,p3,s5,p4⟩:=s3.push (P:=prog) (e:=32) dc8 rfl (x:=.agg (A6.cells (⟨x,y,k⟩:Eg)).toArray) (y:=⟨x,y,k⟩) ((A6.iff_ _ _ _).2 rfl) (by omega) (by omega) (ix:=8) (by simp[G7]) (fun v v'=>by simp[G7]) hil hil1;simp only[i5,n8,simprocAttr,hb1,hb2];refine C0 (fun w'=>t8 (A4 vx) w2.drew w') 11 (A9 [0,1,2,3,4,5,6,7,8,9,10]) ?_;simp only[D2,A9,i5,n8,simprocAttr,k8,t1,t2,hbe,p1,p2,F1];refine⟨t8.up (o7.alloc _ _),p4,?_⟩;simp only[i5,simprocAttr,p3];refine cA1 results62 ?_;exact⟨v',s5⟩
theorem dk9:ah7 prog 103=true:=by kernel_rfl
instance:A6 A7:=⟨fun s=>[o9 s],fun _ _ _=>dy2⟩
theorem bj1{α:Type}(p:α→Bool):∀(l:List α) (i:Nat),V5 p i l ≠ -1→∃k,V5 p i l=((i+k:Nat):Int)∧(∃x,l[k]?=some x∧p x=true)∧∀j y,j<k→l[j]?=some y→p y=false
 | [],i,h=>absurd rfl h
 | x::l,i,h=>by
  rw[V5]at h ⊢;cases hp:p x
  ·rw[hp,if_neg (by simp)]at h;rw[if_neg (by simp)];obtain⟨k,h1,⟨y,h2,h3⟩,h4⟩:=bj1 p l (i+1) h;refine⟨k+1,by rw[h1];congr 1;omega,⟨y,by simpa using h2,h3⟩,fun j z hj hz=>?_⟩;cases j with
   | zero=>
    obtain rfl:x=z:=by simpa using hz
    exact hp
   | succ j=>exact h4 j z (by omega) (by simpa using hz)
  ·rw[if_pos rfl];exact⟨0,by simp,⟨x,rfl,hp⟩,fun j y hj=>by omega⟩
theorem aD2{α:Type}(p:α→Bool):∀(l:List α),(∀(j:Nat) y,l[j]?=some y→p y=true)→l.filter p=l
 | [],_=>rfl
 | x::l,h=>by
  rw[List.filter_cons,if_pos (h 0 x rfl),aD2 p l fun j y hj=>h (j+1) y (by simpa using hj)]
theorem cZ8:∃inf,prog.info? 9=some inf∧inf.size=1:=aS5 df6 df0
theorem ct5{h:Hp}{w:World}{v:Value}{xs:List A7}(ho:B0 h w 9 v xs)(hl:xs.length≤1000000)(hh:B5 h (i4 w)):
  Calls prog 102 #[v,.func (.func 103) #[] #[]] w fun e w'=>∃u,e = .returned u∧(B0 h w' 9 u (xs.filter fun n=>!decide (n=I3))∧t8 (A4 v) w w'∧∀b,A4 u b→A4 v b):=by
 refine p8 [v,.func (.func 103) #[] #[]] func102 rfl ?_;have hS:=ho.isS;have hn:=ho.vlen;have hvc:=ho.vcap;obtain⟨il,hil,hil1⟩:=cZ8;have hpred:∀(x:A7) (w':World),Calls prog 103 ([o9 x]++(#[]:Array Value).toList).toArray w' fun e w''=>∃u,e = .returned u∧(u = .bool (decide (x=I3))∧o7 w' w''):=fun x w'=>(bT1 x w').mono fun e w'' ⟨u,h1,h2,h3⟩=>⟨u,h1,h2,by rw[h3];exact t8.refl _⟩;generalize hP:(fun n:A7=>decide (n=I3))=pred at hpred;have hPn:∀n:A7,decide (n=I3)=pred n:=fun n=>by rw[←hP]
 simp only[hPn]at hpred ⊢;simp only[i5,n8,simprocAttr];refine B2 (aB8 pred 103 #[] v xs w dk9 (ho.rw_ hh) (by omega) fun x w' _ _=>hpred x w') (fun w1 hx1=>?_);rcases dq8 (decide (V5 pred 0 xs = -1))with hq|hq
 ·have e:=dr0 hq;simp only[i5,n8,simprocAttr,hq];refine o6 results102 ?_;simp only[p6,simprocAttr];have hno:xs.any pred=false:=by rw[←au6 pred xs 0,e];rfl
  rw[aD2 _ _ fun j y hj=>by
   have:=List.any_eq_false.1 hno y (ds9 hj);simpa using this]
  exact⟨ho.ext hx1,t8.up hx1,fun b hb=>hb⟩
 obtain⟨k,hk0,⟨xk,hxk,hpk⟩,hfst⟩:=bj1 pred xs 0 (dr2 hq);rw[du4]at hk0;generalize V5 pred 0 xs=z at hq hk0 ⊢;obtain⟨hkl,rfl⟩:=dr4.1 hxk;have hk1:IntKind.i64.wrap (z+1)=((k+1:Nat):Int):=by rw[hk0];exact A8 k (by omega)
 have htk0:(xs.take (k+1)).filter (fun n=>!pred n)=xs.take k:=by
  rw[ai6 _ xs hkl,hpk,if_neg (by simp),du2];refine aD2 _ _ fun j y hj=>?_;rw[dA9]at hj;split at hj
  ·rename_i hjk;rw[hfst j y hjk hj];rfl
  ·cases hj
 simp only[i5,n8,simprocAttr,hq,hk1];refine n9 [0,1] (σ:=Nat×Nat×List A7) (fun s f w'=>f 6 = .int .i64 s.1∧f 5 = .int .i64 s.2.1∧s.1≤xs.length∧s.2.1<s.1∧s.2.2.length=xs.length∧B0 h w' 9 v s.2.2∧(∀m,s.1≤m→s.2.2[m]?=xs[m]?)∧s.2.2.take s.2.1=(xs.take s.1).filter (fun n=>!pred n)∧t8 (A4 v) w w') (fun s=>xs.length-s.1) (k+1,k,xs) ?_ ?_
 ·simp only[p6,simprocAttr];exact⟨by trivial,by rw[hk0],by omega,by omega,by trivial,ho.ext hx1,fun _ _=>by trivial,htk0.symm,t8.up hx1⟩
 rintro⟨j,c,ys⟩ f w2 hk ⟨h6,h5,hjl,hcj,hyl,hoy,hsuf,hpre,hm2⟩;simp only at h6 h5 hjl hcj hyl hoy hsuf hpre;simp only[dq9,p6,simprocAttr]at hk;obtain⟨e0,e1,_⟩:=hk;simp only[i5,n8,simprocAttr,h6,e0,hS,hn];refine m8 (fun hc=>?_) (fun hc=>?_)
 ·have hlt:j<xs.length:=by simpa using hc
  have hyj:ys[j]?=some xs[j]:=by rw[hsuf j (ds5 _),dq7 hlt]
  have hin:=hoy.inS (k:=j) (by omega);have hld:(Instr.loadAt 9 (.pointer (some (H2 v j)))).run prog w2 = .ok (o9 xs[j]) w2:=D4 hoy hyj W4;have htk:=ai6 (fun n=>!pred n) xs hlt;generalize xs[j]=n at hld hyj htk;simp only[i5,n8,z6,simprocAttr,h6,e0,e1,hin,hld,dB0];refine B2 (hpred n w2) (fun w3 hx3=>?_);have hm3:t8 (A4 v) w w3:=hm2.trans (t8.up hx3);rcases dq8 (pred n)with hp|hp
  ·rw[hp,if_neg (by simp),du2]at htk;simp only[i5,n8,simprocAttr,hp,h6];refine⟨(j+1,c,ys),by simp only[];omega,by simp only[];rw[A8 j (by omega)],h5,by simp only[];omega,by simp only[];omega,hyl,hoy.ext hx3,fun m hm=>hsuf m (by simp only at hm;omega),?_,hm3⟩;simp only[];rw[hpre,htk]
  ·rw[hp,if_pos (by simp)]at htk;have hin2:=hoy.inS (k:=c) (by omega);obtain⟨w4,q1,q2,q3,_⟩:=D9 (P:=prog) (t:=9) (hoy.ext hx3) rfl (k:=c) (by omega) (x:=o9 n) (y:=n) rfl rfl hil hil1;simp only[i5,n8,z6,simprocAttr,hp,h6,h5,e0,hin2,q1];refine⟨(j+1,c+1,ys.set c n),by simp only[];omega,by simp only[];rw[A8 j (by omega)],by simp only[];rw[A8 c (by omega)],by simp only[];omega,by simp only[];omega,by simp only[dy4];exact hyl,q2,fun m hm=>?_,?_,hm3.trans q3⟩
   ·simp only at hm ⊢;rw[dz2 (by omega)];exact hsuf m (by omega)
   ·simp only[];have hcs:c<(ys.set c n).length:=by rw[dy4];omega
    rw[dr6 hcs,List.getElem_set_self,List.take_set_of_le (ds5 _),hpre,htk]
 ·have hge:j=xs.length:=by simp at hc;omega
  subst hge;rw[ds2]at hpre;have c3:decide ((c:Int)≤(xs.length:Int))=true:=by simp;omega
  have c4:decide ((c:Int)≤(vcap v:Int))=true:=by simp;omega
  have c5:decide ((xs.length:Int)≤(vcap v:Int))=true:=by simp;omega
  obtain⟨w6,e6,ho6,hm6,hb6⟩:=aV8 (P:=prog) (t:=22) (ty:=0) hoy rfl df6 rfl (by simp[Value.cells,Value.oneCell']) (i:=c) (by omega);have hz:A3.sz A7=1:=rfl;rw[hyl,hz]at e6;rw[hz]at ho6 hb6;simp only[i5,n8,I0,simprocAttr,bk5,h5,e0,hS,hn,c3,c4,c5,e6];refine o6 results102 ?_;simp only[p6,simprocAttr];exact⟨by rw[←hpre];exact ho6,hm2.trans hm6,hb6⟩
theorem cn6(gb:Nat)(T:TypeId)(cs0:Array Value)(a:Addr)(p:Pg)(vs:Value)(s:St)(c:Nat)(w:World)(hb:w.heap[gb]?=some (.cells cs0 T (0,0)))(hc0:cs0[0]?=some (.pointer (some a)))(ha:At (i4 w) a (y5 p))(hr:E8 p)(hw:D1 p≤1000000)(hv:SV (i4 w) vs s)(hc:aB5 p s c):
  p7 prog 58 #[.pointer (some ⟨gb,0,none⟩),vs] w fun u w'=>(∃ui uo,u = .tuple #[ui,uo]∧B0 (i4 w) w' 9 ui ((y5 p).slotsIn (c:Int))∧B0 (i4 w) w' 9 uo ((y5 p).callOut s)∧(∀b,A4 ui b→¬A4 uo b)∧o7 w w'):=by
 refine p8 [.pointer (some ⟨gb,0,none⟩),vs] func58 rfl ?_;have hF:(y5 p).callOut s=if s.name=e0 then((y5 p).slotsOut (c:Int)).filter fun n=>!decide (n=I3)else(y5 p).slotsOut (c:Int):=by
  have e:(y5 p).s.pr s.proc=(c:Int):=hc.pr;unfold Bk.callOut;rw[e]
 have hfew:((y5 p).slotsOut (c:Int)).length≤1000000:=by
  have h1:(y5 p).slotsOut (c:Int)=S8 (F5 (J1 p) (c:Int)++[I3]):=rfl;have:=((av1 hr.may).row hc.lt).2.2;rw[h1,S3,dr1,du0];omega
 obtain⟨d,w1,hb1,hx1,hat⟩:=ah5 hv (d7 _);obtain⟨sv,hsv,_,sdv⟩:=hat.st_v;obtain⟨_,_,_,_,_,_,_,_,_,lds,_⟩:=hat.st;have hx1d:=hx1.trans (o7.drew w1);have k0:∀K f d w0',I1 prog (fun w'=>o7 w1.drew w') (Instr.loadAt 78 (.pointer (some ⟨gb,0,none⟩))) K f d w0'=K (C4 f d (.pointer (some a))) w0':=fun K f d w0'=>D5 (w0:=w1.drew) (t8.refl _) fun w' h=>E9 (i:=0) (((hx1d.trans h).block gb (dr3.1 hb).1 id).trans hb) hc0 bn5;have t1:=sdv (fun w'=>o7 w1.drew w') w1.drew (t8.refl _) fun w' h=>b7 ((o7.drew w1).trans h);simp only[i5,n8,simprocAttr,hb1];refine C0 (fun w'=>o7 w1.drew w') 15 (A9 [0,1,2,3,4,5,6,7,8,9,10,11,12,13,14]) ?_;simp only[D2,A9,i5,n8,simprocAttr,k0,t1];refine B2 (ao0 a (y5 p) p sv s w1.drew (ha.mono (b7 hx1d)) rfl hr.may (hsv.mono (b7 (o7.drew w1)))) (fun w2 hx2=>⟨hx2,?_⟩);rw[hc.pr];have hx02:=hx1d.trans hx2;simp only[D2,i5,simprocAttr];refine z7 (aG1 a p c w2 (ha.mono (b7 hx02)) hr hw hc.lt) ?_;rintro _ w3 ⟨ui,uo,rfl,hoi,hoo,hdj,hx3⟩;refine⟨hx2.trans hx3,?_⟩;have hx03:=hx02.trans hx3;have l3:=lds w3 (b7 ((o7.drew w1).trans (hx2.trans hx3)));rcases dq8 (decide (s.name=ofA #[]))with h1|h1
 ·simp only[D2,i5,n8,simprocAttr,l3,h1];have e1:s.name=e0:=dr0 h1;refine z7 (ct5 hoo hfew (b7 hx3)) ?_;rintro u4 w4 ⟨ho4,hm4,hb4⟩;simp only[i5,simprocAttr];refine af0 results58 ?_;simp only[p6,simprocAttr];rw[hF,if_pos e1];exact⟨ui,u4,by trivial,(hoi.mod hm4 fun b h1 h2=>hdj b h1 h2).back hx02,ho4.back hx02,fun b h1 h2=>hdj b h1 (hb4 b h2),hx02.trans (hoo.ext2 hx3 hm4)⟩
 ·simp only[D2,i5,n8,simprocAttr,l3,h1];have e1:s.name≠e0:=dr2 h1;refine af0 results58 ?_;simp only[p6,simprocAttr];rw[hF,if_neg e1];exact⟨ui,uo,by trivial,hoi.back hx02,hoo.back hx02,hdj,hx03⟩
theorem bE7(a:Addr)(i:Int)(q:A7)(c1 c2 c3 c4:Value):B8 prog 116 [(0,.pointer (some a)),(1,.int .i64 i),(2,.agg #[o9 q,c1,c2,c3,c4])]=some (.agg (G7 a i q c1 c2 c3 c4 (.slice none 0 0) (.slice none 0 0))):=by
 unfold G7;simp[B8,cU0,J5,Instr.fill,Value.cells,o9]
theorem PV.new{w w2:World}(a:Addr)(i:Int)(q:A7)(c1 c2 c3 c4:Value)(hx:o7 (w.alloc (.cells (G7 a i q c1 c2 c3 c4 (.slice none 0 0) (.slice none 0 0)) 116)) w2):
  PV (B7 w2 (nP w.heap.size (.slice none 0 0))) w w2 w.heap.size a i q c1 c2 c3 c4 (.slice none 0 0) []∧PE (B7 w2 (nP w.heap.size (.slice none 0 0))) w w2 w.heap.size a i q c1 c2 c3 c4 (.slice none 0 0) []:=by
 have hx2:o7 w w2:=(o7.alloc _ _).trans hx;have hcb:w2.heap[w.heap.size]?=some (.cells (G7 a i q c1 c2 c3 c4 (.slice none 0 0) (.slice none 0 0)) 116 (0,0)):=(hx.block _ (by simp) id).trans (dv4 w _);exact⟨⟨hx2,ds5 _,hcb,B0.nil _ _ _,B0.nil _ _ _,fun b h=>absurd h C6,fun b h=>absurd h C6,fun b h=>h.elim,fun b h=>h.elim,hx2.size,d7 _⟩,
  ⟨hx2,ds5 _,hcb,B0.nil _ _ _,B0.nil _ _ _,fun b h=>absurd h C6,fun b h=>absurd h C6,fun b h=>h.elim,fun b h=>h.elim,hx2.size,d7 _⟩⟩
theorem cc5{w w2:World}(hx:o7 w w2):B5 (i4 w) (B7 w2 (nP w.heap.size (.slice none 0 0))):=aH1 hx fun b hb=>by
 rcases hb with h|h|h|h
 ·rw[h];exact ds5 _
 ·exact absurd h C6
 ·exact absurd h C6
 ·exact h.elim
theorem cx5{w w1 w2:World}(hw1:w.heap.size<w1.heap.size){α:Type}[I8 α]{T:TypeId}{u:Value}{l:List α}(ho:B0 (i4 w1) w2 T u l):R (B7 w2 (nP w.heap.size (.slice none 0 0))) u l:=
 ho.flatR fun b hb=>D3 fun h=>by
  have:=D0 (ho.free hb);rcases h with h|h|h|h
  ·omega
  ·exact absurd h C6
  ·exact absurd h C6
  ·exact h.elim
theorem aj2{p:Pg}(hr:E8 p)(hw:D1 p≤1000000){i:Nat}(hi:i<p.procs.length):((y5 p).slotsIn (i:Int)).length≤33:=by
 have h1:=((aH3 hr hw).row hi).2.2;have h2:=O4 hr.may hi;unfold Bk.slotsIn;rw[Z8 hi,S3,dr1,dr9];have e:(y5 p).ins=Y8 p:=rfl;rw[e];omega
theorem am0{p:Pg}(hr:E8 p){i:Nat}(hi:i<p.procs.length):((y5 p).slotsOut (i:Int)).length≤26:=by
 have h1:=((av1 hr.may).row hi).2.2;have e:(y5 p).slotsOut (i:Int)=S8 (F5 (J1 p) (i:Int)++[I3]):=rfl;rw[e,S3,dr1,du0];omega
theorem aY6{p:Pg}(hr:E8 p){s:St}{c:Nat}(hc:aB5 p s c):((y5 p).callOut s).length≤26:=by
 have h1:=am0 hr hc.lt;have e:(y5 p).s.pr s.proc=(c:Int):=hc.pr;unfold Bk.callOut;rw[e];split
 ·exact dr7 (dt9 _ _) h1
 ·exact h1
def T8(p:Pg)(q:A7)(it:It):List Vx:=[⟨q,2,it.s.id,e0⟩]++if it.s.kind=4 then(((y5 p).slotsIn ((y5 p).s.pr it.s.proc)).map fun n=>(⟨q,5,it.s.id,n⟩:Vx))++((y5 p).callOut it.s).map fun n=>(⟨q,6,it.s.id,n⟩:Vx)else[]
theorem bd2{p:Pg}(hr:E8 p)(hw:D1 p≤1000000)(q:A7){it:It}(hit:it∈(b9 p).l):(T8 p q it).length≤100:=by
 unfold T8;rw[dr1,du0];split
 ·rename_i h4;obtain⟨c,hc⟩:=ad1 (hr.fits it hit h4);have e:(y5 p).s.pr it.s.proc=(c:Int):=hc.pr;have h1:=aj2 hr hw hc.lt;have h2:=aY6 hr hc;rw[e,dr1,dr9,dr9];omega
 ·simp
theorem cy1{p:Pg}{i x y:Nat}(pt:at7 p i x y){it:It}(hit:it∈(b9 p).of i):it∈(b9 p).l:=by
 rw[pt.ok.of_]at hit;exact dz5 (dB8 hit)
theorem aO0(a:Addr)(p:Pg)(i:Nat)(w:World)(ha:At (i4 w) a (y5 p))(hr:E8 p)(hw:D1 p≤1000000)(hi:i<p.procs.length):
  p7 prog 39 #[.pointer (some a),.int .i64 i] w fun u w'=>(B0 (i4 w) w' 36 u ((y5 p).verts (i:Int))∧o7 w w'):=by
 refine p8 [.pointer (some a),.int .i64 i] func39 rfl ?_;obtain⟨il,hil,hil1⟩:=cN7;obtain⟨x,pt⟩:=O8 hr.may hw i hi;have h200:=G9 hr.may;obtain⟨sh,vw,vd,_,vi,vo,has,hvw,hvd,_,hvi,hvo,ldb,sdb⟩:=ha.book rfl;obtain⟨_,_,_,_,_,_,hpg,_,_⟩:=has.sh;rw[J0]at hpg;obtain⟨vg,vp,hvg,hvp,ldp,sdp⟩:=hpg.pg;have lb:=ldb w (d7 _);have lp:=ldp w (d7 _);have hF:(y5 p).vert0 (i:Int)=([⟨p.procs[i].name,1,0,e0⟩]++((y5 p).slotsIn (i:Int)).map fun n=>(⟨p.procs[i].name,3,0,n⟩:Vx))++(((y5 p).slotsOut (i:Int)).map fun n=>(⟨p.procs[i].name,4,0,n⟩:Vx))++((b9 p).of i).flatMap (T8 p p.procs[i].name):=by
  unfold Bk.vert0;rw[Z8 hi];rfl
 have hfi:=aj2 hr hw hi;have hfo:=am0 hr hi;have hVl:∀it∈(b9 p).of i,(T8 p p.procs[i].name it).length≤100:=fun it hit=>bd2 hr hw _ (cy1 pt hit);have hV:∀it,T8 p p.procs[i].name it=[⟨p.procs[i].name,2,it.s.id,e0⟩]++if it.s.kind=4 then(((y5 p).slotsIn ((y5 p).s.pr it.s.proc)).map fun n=>(⟨p.procs[i].name,5,it.s.id,n⟩:Vx))++((y5 p).callOut it.s).map fun n=>(⟨p.procs[i].name,6,it.s.id,n⟩:Vx)else[]:=fun it=>rfl;have hcalls:∀it∈(b9 p).of i,it.s.kind=4→∃c,aB5 p it.s c:=fun it hit h4=>ad1 (hr.fits it (cy1 pt hit) h4);have hlens:((b9 p).of i).length≤200:=by
  rw[pt.ok.of_,dy7,ds3];omega
 have hin:=hvp.inS hi;obtain⟨sv,hsv,hld⟩:=E4 (P:=prog) (t:=51) hvp (d7 _) (dq7 hi) ae2 ae5 ac8 I4;rw[I4]at hld;obtain⟨cs,rfl,c1,c2,c3,c4,rfl,_⟩:=hsv;generalize p.procs[i].name=q at hF hV hVl hld;have hbp:=bE7 a (i:Int) q c1 c2 c3 c4;have hbx:(Instr.box 116 (.agg (G7 a i q c1 c2 c3 c4 (.slice none 0 0) (.slice none 0 0)))).run prog w = .ok (.pointer (some ⟨w.heap.size,0,none⟩)) (w.alloc (.cells (G7 a i q c1 c2 c3 c4 (.slice none 0 0) (.slice none 0 0)) 116)):=rfl;simp only[i5,n8,z6,simprocAttr,lb,lp,hin,hld,hbp,hbx];have hxa:=o7.alloc w (.cells (G7 a i q c1 c2 c3 c4 (.slice none 0 0) (.slice none 0 0)) 116);have hsz1:w.heap.size<(w.alloc (.cells (G7 a i q c1 c2 c3 c4 (.slice none 0 0) (.slice none 0 0)) 116)).heap.size:=by simp
 generalize hw1:w.alloc (.cells (G7 a i q c1 c2 c3 c4 (.slice none 0 0) (.slice none 0 0)) 116)=w1 at hxa hsz1;refine z7 (aG1 a p i w1 (ha.mono (b7 hxa)) hr hw hi) ?_;rintro _ w2 ⟨ui,uo,rfl,hoi,hoo,hdj,hx2⟩;have hx02:=hxa.trans hx2;rw[←hw1]at hx2;have s2:=(PV.new a i q c1 c2 c3 c4 hx2).1;have hui:=cx5 hsz1 hoi;have huo:=cx5 hsz1 hoo;have hbase:=cc5 hx02;generalize hgb:w.heap.size=gb at s2 hui huo hbase;generalize hH0:B7 w2 (nP gb (.slice none 0 0))=H0 at s2 hui huo hbase;have s3:=s2.more (o7.drew w2);have hcb:∀w',t8 (fun _=>False) w2.drew w'→w'.heap[gb]?=some (.cells (G7 a i q c1 c2 c3 c4 (.slice none 0 0) (.slice none 0 0)) 116 (0,0)):=fun w' hm=>(hm.block gb (dr3.1 s3.cb).1 id).trans s3.cb;have k7:∀K f d w0',I1 prog (fun w'=>t8 (fun _=>False) w2.drew w') (Instr.loadAt 30 (.pointer (some ⟨gb,7,none⟩))) K f d w0'=K (C4 f d (.slice none 0 0)) w0':=fun K f d w0'=>D5 (w0:=w2.drew) (t8.refl _) fun w' h=>E9 (i:=7) (u:=.slice none 0 0) (hcb w' h) rfl bM9;simp only[i5,simprocAttr];refine C0 (fun w'=>t8 (fun _=>False) w2.drew w') 9 (A9 [0,1,2,3,4,5,6,7,8]) ?_;have hse:Value.string {data:=#[]}=o9 e0:=rfl;simp only[D2,A9,i5,n8,simprocAttr,k7,hse];refine z7 (H4 gb _ _ q 1 0 e0 w2.drew s3.cb rfl) ?_;rintro _ w3 ⟨rfl,hx3⟩;refine⟨hx3,?_⟩;have s4:=s3.more hx3;obtain⟨p1,v5,w4,w5,p2,p3,s5,p4⟩:=s4.push (P:=prog) (e:=30) bL5 rfl (x:=.agg (A6.cells (⟨q,1,0,e0⟩:Vx)).toArray) (y:=⟨q,1,0,e0⟩) ((A6.iff_ _ _ _).2 rfl) (by simp) (by simp) (ix:=7) (by simp[G7]) (fun v v'=>by simp[G7]) hil hil1;have p4':t8 (fun _=>False) w3 w4:=p4.weaken fun b _ hb=>C6 hb;simp only[D2,i5,n8,simprocAttr,p1,p2,F1];refine⟨hx3.trans (o7.alloc _ _),hx3.trans p4',?_⟩;simp only[i5,simprocAttr,p3];simp only[dB0]at s5;have hui5:=A3.mono s5.base hui;refine z7 (aH8 H0 gb a i q c1 c2 c3 c4 v5 _ 3 0 ui _ w w5 s5 hui5 (by rw[du0];omega)) ?_;rintro r6 w6 ⟨v6,s6⟩;have s6:=s6.rebase (p9 s5.base s6.base);have huo6:=A3.mono s6.base huo;simp only[i5,simprocAttr];refine z7 (aH8 H0 gb a i q c1 c2 c3 c4 v6 _ 4 0 uo _ w w6 s6 huo6 (by rw[dr1,du0,dr9];omega)) ?_;rintro r7 w7 ⟨v7,s7⟩;have s7:=s7.rebase (p9 s6.base s7.base);have hb7:B5 (i4 w) (i4 w7):=p9 hbase s7.hb;have lb7:=ldb w7 hb7;simp only[i5,n8,simprocAttr,lb7];refine z7 (aF3 (i4 w) sh (b9 p) i x _ w7 has hb7 pt.ok) ?_;rintro ul w8 ⟨hul,hx8⟩;have s8:=s7.more hx8;have hprel:(([(⟨q,1,0,e0⟩:Vx)]++((y5 p).slotsIn (i:Int)).map fun n=>(⟨q,3,0,n⟩:Vx))++(((y5 p).slotsOut (i:Int)).map fun n=>(⟨q,4,0,n⟩:Vx))).length≤60:=by
  rw[dr1,dr1,du0,dr9,dr9];omega
 generalize(([(⟨q,1,0,e0⟩:Vx)]++((y5 p).slotsIn (i:Int)).map fun n=>(⟨q,3,0,n⟩:Vx))++(((y5 p).slotsOut (i:Int)).map fun n=>(⟨q,4,0,n⟩:Vx)))=pre at s8 hF hprel;generalize(b9 p).of i=L at hul hF hVl hcalls hlens;have hSl:=hul.isS;have hnl:=hul.vlen;clear s2 s3 s4 s5 s6 s7 hcb k7;simp only[i5,n8,simprocAttr,hSl,hnl];refine n9 [0,1,5,53,54] (σ:=Nat×Value) (fun t f w'=>f 55 = .int .i64 t.1∧t.1≤L.length∧PV H0 w w' gb a i q c1 c2 c3 c4 t.2 (pre++(L.take t.1).flatMap (T8 p q))) (fun t=>L.length-t.1) (0,v7) ?_ ?_
 ·simp only[p6,simprocAttr];exact⟨by trivial,dr8 _,by simpa using s8⟩
 clear s8;rintro⟨k,v⟩ f w9 hk ⟨h55,hkl,s9⟩;simp only at h55 hkl s9;simp only[dq9,p6,simprocAttr]at hk;obtain⟨e0',e1,e5,e53,e54,_⟩:=hk;have hpl:(pre++(L.take k).flatMap (T8 p q)).length≤30000:=by
  rw[dr1];have h1:=S1 (T8 p q) 100 (L.take k) fun z hz=>hVl z (dz5 hz);rw[ds3]at h1;have h2:min k L.length≤200:=by omega
  omega
 have hb9:B5 (i4 w) (i4 w9):=p9 hbase s9.hb;simp only[i5,n8,simprocAttr,h55,e54];refine m8 (fun hc=>?_) (fun hc=>?_);rotate_left
 ·have hge:k=L.length:=by simp at hc;omega
  subst hge;rw[ds2]at s9 hpl;have l7:(Instr.loadAt 30 (.pointer (some ⟨gb,7,none⟩))).run prog w9 = .ok v w9:=E9 (i:=7) (u:=v) s9.cb rfl bM9;simp only[i5,n8,simprocAttr,e5,l7];refine z7 (bV1 s9.ox (by omega) fun a _ b _ h1 h2=>bo1 (bZ4.eq0 h1 h2)) ?_;rintro _ w10 ⟨ho10,hm10⟩;have l7':(Instr.loadAt 30 (.pointer (some ⟨gb,7,none⟩))).run prog w10 = .ok v w10:=E9 (i:=7) (u:=v) ((hm10.block gb (dr3.1 s9.cb).1 fun h=>(s9.dx gb h).2.1 rfl).trans s9.cb) rfl bM9;simp only[i5,n8,simprocAttr,e5,l7'];refine o6 results39 ?_;simp only[p6,simprocAttr];refine⟨?_,t8.ext_of s9.ext hm10 fun b hb=>(s9.dx b hb).1⟩;have e:(y5 p).verts (i:Int)=V9 cE0 (pre++L.flatMap (T8 p q)):=by unfold Bk.verts;rw[hF]
  rw[e];exact ho10.downN (p9 hbase s9.base)
 have hlt:k<L.length:=by simpa using hc
 have htk:=I9 (T8 p q) L hlt;have hmem:=dr5 hlt;clear hin hld;have hin:=hul.inS hlt;obtain⟨sv,hsv,hld⟩:=E4 (P:=prog) (t:=121) hul (hb9) (dq7 hlt) ab1 ab2 Z1 I7;rw[I7]at hld;have hVe:=hV L[k];have hcl:=hcalls _ hmem;generalize L[k]=it at hsv htk hVe hcl;generalize hys:pre++(L.take k).flatMap (T8 p q)=ys at s9 hpl;obtain⟨d,wz,w10,hal,hst,hx10,hati⟩:=aI8 (w:=w9) (nP gb v) hsv fun b hb=>s9.lt hb;have s10:=s9.more hx10;have b10:=s10.base;have s10:=s10.rebase (d7 _);generalize hK:B7 w10 (nP gb v)=K at s10 b10 hati;obtain⟨us,hus,hats,_,_⟩:=I2.it hsv hati;obtain⟨_,_,_,_,_,_,_,_,_,_,_,lds,sds⟩:=I2.st hus hats;have ldv:=(I2.st_v hus hats).1;have s11:=s10.more (o7.drew w10);have hcb11:∀w',t8 (A4 v) w10.drew w'→w'.heap[gb]?=some (.cells (G7 a i q c1 c2 c3 c4 v (.slice none 0 0)) 116 (0,0)):=fun w' hm=>(hm.block gb (dr3.1 s11.cb).1 fun h=>(s11.dx gb h).2.1 rfl).trans s11.cb;have k7:∀K f d w0',I1 prog (fun w'=>t8 (A4 v) w10.drew w') (Instr.loadAt 30 (.pointer (some ⟨gb,7,none⟩))) K f d w0'=K (C4 f d v) w0':=fun K f d w0'=>D5 (w0:=w10.drew) (t8.refl _) fun w' h=>E9 (i:=7) (u:=v) (hcb11 w' h) rfl bM9;have t1:=sds (fun w'=>t8 (A4 v) w10.drew w') w10.drew (t8.refl _) fun w' h=>p9 s11.base (p9 (G6 h (fun b hb=>.inr (.inl hb)) fun b hb=>.inl hb) (B3 _ _));simp only[i5,n8,z6,simprocAttr,h55,e53,hin,hld,hal,hst];refine C0 (fun w'=>t8 (A4 v) w10.drew w') 12 (A9 [0,1,2,3,4,5,6,7,8,9,10,11]) ?_;simp only[D2,A9,i5,n8,simprocAttr,e5,k7,t1];refine z7 (H4 gb _ _ q 2 it.s.id e0 w10.drew s11.cb rfl) ?_;rintro _ w12 ⟨rfl,hx12⟩;refine⟨t8.up hx12,?_⟩;have s12:=s11.more hx12;obtain⟨p1,v',w13,w14,p2,p3,s14,p4⟩:=s12.push (P:=prog) (e:=30) bL5 rfl (x:=.agg (A6.cells (⟨q,2,it.s.id,e0⟩:Vx)).toArray) (y:=⟨q,2,it.s.id,e0⟩) ((A6.iff_ _ _ _).2 rfl) (by omega) (by omega) (ix:=7) (by simp[G7]) (fun v v'=>by simp[G7]) hil hil1;simp only[D2,i5,n8,simprocAttr,p1,p2,F1];refine⟨(t8.up hx12).trans (t8.up (o7.alloc _ _)),(t8.up hx12).trans p4,?_⟩;have l14:=lds w14 s14.hb;have hb14:B5 (i4 w) (i4 w14):=p9 hbase (p9 b10 s14.hb);have hyl:(ys++[(⟨q,2,it.s.id,e0⟩:Vx)]).length≤30001:=by rw[dr1,du0];omega
 clear s9 s10 s11 s12 k7 hcb11 t1;rcases dq8 (decide (it.s.kind=4))with h4|h4
 ·have e4:=dr0 h4;obtain⟨c,hc4⟩:=hcl e4;have epr:(y5 p).s.pr it.s.proc=(c:Int):=hc4.pr;have hf1:=aj2 hr hw hc4.lt;have hf2:=aY6 hr hc4;rw[if_pos e4,epr]at hVe;have lv14:=ldv w14 s14.hb;simp only[i5,n8,simprocAttr,e5,p3,l14,h4,lv14];refine z7 (cn6 gb _ _ a p us it.s c w14 s14.cb rfl (ha.mono hb14) hr hw (hus.mono hb14) hc4) ?_;rintro _ w15 ⟨ui2,uo2,rfl,hoi2,hoo2,hdj2,hx15⟩;have s15:=s14.more hx15;have hui2:=s14.fresh hoi2;have huo2:=s14.fresh hoo2;have l15:=lds w15 s15.hb;generalize(y5 p).slotsIn (c:Int)=Si at hVe hf1 hui2;generalize(y5 p).callOut it.s=So at hVe hf2 huo2;simp only[i5,n8,simprocAttr,e5,l15];refine z7 (aH8 K gb a i q c1 c2 c3 c4 v' _ 5 it.s.id ui2 Si w w15 s15 hui2 (by omega)) ?_;rintro _ w16 ⟨v16,s16⟩;have huo16:=A3.mono s16.base huo2;have b16:=p9 s15.base s16.base;have l16:=lds w16 (p9 b16 (B3 _ _));simp only[i5,n8,simprocAttr,e5,l16];refine z7 (aH8 _ gb a i q c1 c2 c3 c4 v16 _ 6 it.s.id uo2 So w w16 s16 huo16 (by rw[dr1,dr9];omega)) ?_;rintro _ w17 ⟨v17,s17⟩;have hlist:pre++(L.take (k+1)).flatMap (T8 p q)=ys++[(⟨q,2,it.s.id,Go.Proofs.YtcbnbgpphippoaaGreat.e0⟩:Vx)]++(Si.map fun n=>(⟨q,5,it.s.id,n⟩:Vx))++So.map fun n=>(⟨q,6,it.s.id,n⟩:Vx):=by
   rw[htk,hVe,←hys];simp only[dt4]
  simp only[i5,n8,simprocAttr,h55];refine⟨(k+1,v17),by simp only[];omega,by simp only[];rw[A8 k (by omega)],by simp only[];omega,?_⟩;simp only[];rw[hlist];exact s17.rebase (p9 b10 (p9 b16 s17.base))
 ·have e4:=dr2 h4;rw[if_neg e4,du2]at hVe;have hlist:pre++(L.take (k+1)).flatMap (T8 p q)=ys++[(⟨q,2,it.s.id,Go.Proofs.YtcbnbgpphippoaaGreat.e0⟩:Vx)]:=by
   rw[htk,hVe,←hys];simp only[dt4]
  simp only[i5,n8,simprocAttr,p3,l14,h4,h55];refine⟨(k+1,v'),by simp only[];omega,by simp only[];rw[A8 k (by omega)],by simp only[];omega,?_⟩;simp only[];rw[hlist];exact s14.rebase (p9 b10 s14.base)
theorem bV2(vs:Value)(ag:Ar)(w:World)(hv:SV (i4 w) vs ag)(hl:S6 ag.x≤1000000):
  p7 prog 109 #[vs] w fun u w'=>(B0 (i4 w) w' 9 u (U9 ag)∧o7 w w'):=by
 refine p8 [vs] func109 rfl ?_;obtain⟨d,w1,hb1,hx1,hat⟩:=bY4 hv (d7 _);obtain⟨hatx,ldg,_⟩:=hat.ar;obtain⟨sx,hsx,ldx,_⟩:=hatx.ex_v;have l1:=ldg w1 (d7 _);have lx1:=ldx w1 (d7 _);unfold U9;cases hr:ag.ref
 ·rw[hr]at l1;simp only[i5,n8,simprocAttr,hb1,l1,lx1];refine z7 (ao1 sx ag.x w1 hsx hl) ?_;rintro u w2 ⟨ho,hx2⟩;simp only[i5,simprocAttr];refine o6 results109 ?_;simp only[p6,simprocAttr];exact⟨ho.back hx1,hx1.trans hx2⟩
 ·rw[hr]at l1;obtain⟨u,w2,q1,q2,q3,_⟩:=cb8 ag.name w1 (b7 hx1);simp only[i5,n8,simprocAttr,hb1,l1,q1];refine o6 results109 ?_;simp only[p6,simprocAttr];exact⟨q2,hx1.trans q3⟩
theorem dc2(w:World):∃w0,(Instr.alloc 36 true (.tuple #[])).run prog w = .ok (.pointer (some ⟨w.heap.size,0,none⟩)) w0∧o7 w w0∧∀(w':World) (y:Vx),o7 w0 w' →
  ∃w'',(Instr.storeAt 36 (.pointer (some ⟨w.heap.size,0,none⟩)) (.agg (A6.cells y).toArray)).run prog w' = .ok () w''∧(Instr.loadAt 36 (.pointer (some ⟨w.heap.size,0,none⟩))).run prog w'' = .ok (.agg (A6.cells y).toArray) w''∧o7 w w'':=by
 obtain⟨z,hz,hzs⟩:∃z,G0 prog 36=some z∧z.cells.size=K1 prog 36:=⟨_,bx1,by rw[W5];rfl⟩;have hcs:∀y:Vx,(A6.cells y).toArray.size=K1 prog 36:=fun y=>by rw[W5];rfl
 have h1:=(aJ7 (P:=prog) (w:=w) (T:=36) hz hzs (cs:=(A6.cells (⟨e0,0,0,e0⟩:Vx)).toArray) (hcs _) (fun u hu=>am8 _ u (by simpa using hu))).1;refine⟨_,h1,o7.alloc _ _,fun w' y hx=>?_⟩;have hb:w'.heap[w.heap.size]?=some (.cells z.cells 36 (0,0)):=(hx.block _ (by simp) id).trans (dv4 w _);obtain⟨w'',e1,e2,e3⟩:=Z7 (P:=prog) (T:=36) hb hz hzs (hcs y) (fun u hu=>am8 y u (by simpa using hu));exact⟨w'',e1,S9 e2 aF4 aF7 aB2 (hcs y).symm,t8.ext_of ((o7.alloc _ _).trans hx) e3 fun b hb=>by rw[hb];exact ds5 _⟩
theorem bs0{p:Pg}{s:St}{c:Nat}(hc:aB5 p s c):(y5 p).callee s=p.procs[c]'hc.lt:=by
 have e:(y5 p).s.pr s.proc=(c:Int):=hc.pr;unfold Bk.callee;rw[e,Z8 hc.lt]
theorem cj9(gb:Nat)(T:TypeId)(cs0:Array Value)(a:Addr)(p:Pg)(q:A7)(pl:Int)(n:A7)(w:World)(hb:w.heap[gb]?=some (.cells cs0 T (0,0)))(hc0:cs0[0]?=some (.pointer (some a)))(hcq:cs0[2]?=some (o9 q))(ha:At (i4 w) a (y5 p))(hr:E8 p)(hw:D1 p≤1000000)
  (hpl:pl=0∨∃j:Nat,pl=(j:Int)+1∧j<(b9 p).l.length) :
  p7 prog 63 #[.pointer (some ⟨gb,0,none⟩),.int .i64 pl,o9 n] w fun u w'=>(u = .agg (A6.cells ((y5 p).giver q pl n)).toArray∧o7 w w'):=by
 refine p8 [.pointer (some ⟨gb,0,none⟩),.int .i64 pl,o9 n] func63 rfl ?_;obtain⟨w0,hal,hx0,hend⟩:=dc2 w;have hblk:∀w',o7 w w'→w'.heap[gb]?=some (.cells cs0 T (0,0)):=fun w' hx=>(hx.block gb (dr3.1 hb).1 id).trans hb;have hse:Value.string {data:=#[]}=o9 e0:=rfl;have hsg:Value.string {data:=#[36,114,101,116]}=o9 I3:=rfl;rcases dq8 (decide (pl=0))with h0|h0
 ·have e0':=dr0 h0;simp only[i5,n8,simprocAttr,hal,h0];refine B2 (H4 gb T cs0 q 3 0 n w0 (hblk w0 hx0) hcq) (fun w1 hx1=>?_);obtain⟨w2,q1,q2,hx2⟩:=hend w1 ⟨q,3,0,n⟩ hx1;simp only[i5,simprocAttr,q1];refine L6 results63 (ad:=⟨w.heap.size,0,none⟩) (by simp only[p6,simprocAttr]) q2 ?_;refine⟨?_,hx2⟩;unfold Bk.giver;rw[if_pos e0']
 have hne:=dr2 h0;obtain⟨j,rfl,hjl⟩:∃j:Nat,pl=(j:Int)+1∧j<(b9 p).l.length:=by
  rcases hpl with h|h
  ·exact absurd h hne
  ·exact h
 have h200:=G9 hr.may;obtain⟨sh,vw,vd,_,vi,vo,has,hvw,hvd,_,hvi,hvo,ldb,sdb⟩:=ha.book rfl;obtain⟨vl,_,_,hvl,_,_,hpg,lds,_⟩:=has.sh;rw[J0]at hpg;obtain⟨vg,vp,hvg,hvp,ldp,sdp⟩:=hpg.pg;have hle0:=b7 hx0;have lb0:=ldb w0 hle0;have ls0:=lds w0 hle0;have k0:(Instr.loadAt 78 (.pointer (some ⟨gb,0,none⟩))).run prog w0 = .ok (.pointer (some a)) w0:=E9 (i:=0) (hblk w0 hx0) hc0 bn5;have hwj:IntKind.i64.wrap ((j:Int)+1-1)=(j:Int):=by rw[K6 _ (by omega)];omega
 have hinl:=hvl.inS (k:=j) hjl;have hatl:=hvl.at_ (i:=j) (x:=(b9 p).l[j]) (dq7 hjl);have hz17:A3.sz It=17:=rfl;rw[hz17]at hatl;have hmem:=dr5 hjl;have hfits:=hr.fits _ hmem;have hite:(b9 p).it ((j:Int)+1)=(b9 p).l[j]:=by
  unfold Sh.it;rw[show((j:Int)+1-1).toNat=j by omega,List.getD,dq7 hjl];rfl
 have hGv:(y5 p).giver q ((j:Int)+1) n=if((b9 p).l[j]).s.kind≠4 then⟨q,2,(j:Int)+1,e0⟩else if((b9 p).l[j]).s.name=n then⟨q,6,(j:Int)+1,I3⟩
   else match(((b9 p).l[j]).s.args.zip ((y5 p).callee ((b9 p).l[j]).s).params).find? fun x=>x.1.ref&&decide (x.1.name=n)with
    | some x=>⟨q,6,(j:Int)+1,x.2.name⟩
    | none=>⟨q,6,(j:Int)+1,n⟩:=by
  have hs:(y5 p).s=b9 p:=rfl;unfold Bk.giver;rw[if_neg hne,hs,hite];rfl
 generalize(b9 p).l[j]=it at hatl hfits hGv;obtain⟨hats,_,_⟩:=hatl.it;obtain⟨sv,hsv,ldv,_⟩:=hats.st_v;have lv0:=ldv w0 hle0;obtain⟨d,wz,w1,hal1,hst1,hx1,hat⟩:=aI7 (hsv.mono hle0) (d7 _);obtain⟨_,va,_,_,_,hva,_,_,_,ldd,_⟩:=hat.st;obtain⟨sv2,hsv2,_,sdv2⟩:=hat.st_v;have l1:=ldd w1 (d7 _);have hx01:=hx0.trans hx1;rcases dq8 (decide (it.s.kind=4))with h4|h4;rotate_left
 ·have e4:=dr2 h4;simp only[i5,n8,z6,simprocAttr,hal,h0,k0,lb0,ls0,hwj,hinl,lv0,hal1,hst1,l1,h4,hse];refine B2 (H4 gb T cs0 q 2 ((j:Int)+1) e0 w1 (hblk w1 hx01) hcq) (fun w2 hx2=>?_);obtain⟨w3,q1,q2,hx3⟩:=hend w2 ⟨q,2,(j:Int)+1,e0⟩ (hx1.trans hx2);simp only[i5,simprocAttr,q1];refine L6 results63 (ad:=⟨w.heap.size,0,none⟩) (by simp only[p6,simprocAttr]) q2 ?_;refine⟨?_,hx3⟩;rw[hGv,if_pos e4]
 have e4:=dr0 h4;rw[if_neg (by simpa using e4)]at hGv;rcases dq8 (decide (it.s.name=n))with h5|h5
 ·have e5:=dr0 h5;simp only[i5,n8,z6,simprocAttr,hal,h0,k0,lb0,ls0,hwj,hinl,lv0,hal1,hst1,l1,h4,h5,hsg];refine B2 (H4 gb T cs0 q 6 ((j:Int)+1) I3 w1 (hblk w1 hx01) hcq) (fun w2 hx2=>?_);obtain⟨w3,q1,q2,hx3⟩:=hend w2 ⟨q,6,(j:Int)+1,I3⟩ (hx1.trans hx2);simp only[i5,simprocAttr,q1];refine L6 results63 (ad:=⟨w.heap.size,0,none⟩) (by simp only[p6,simprocAttr]) q2 ?_;refine⟨?_,hx3⟩;rw[hGv,if_pos e5]
 have e5:=dr2 h5;obtain⟨c,hc⟩:=ad1 (hfits e4);rw[if_neg e5,bs0 hc]at hGv;have hlen:=hc.len;have hpl8:=O4 hr.may hc.lt;have hatp:=hvp.at_ (i:=c) (x:=p.procs[c]'hc.lt) (dq7 hc.lt);have hinp:=hvp.inS (k:=c) hc.lt;have hz5:A3.sz Pr=5:=rfl;rw[hz5]at hatp;obtain⟨vpa,_,_,_,hvpa,_,_,_,_,sdr⟩:=hatp.pr;have hkp:=hc.pr;generalize(p.procs[c]'hc.lt).params=pas at hGv hlen hpl8 hvpa;have hSa:=hva.isS;have hna:=hva.vlen;simp only[i5,n8,z6,simprocAttr,hal,h0,k0,lb0,ls0,hwj,hinl,lv0,hal1,hst1,l1,h4,h5,hSa,hna];refine n9 [0,1,2,6,7,44,45] (σ:=Nat) (fun k f w'=>f 46 = .int .i64 k∧k≤it.s.args.length∧(∀m (hm:m<it.s.args.length),m<k→(it.s.args[m].ref&&decide (it.s.args[m].name=n))=false)∧o7 w1 w') (fun k=>it.s.args.length-k) 0 ?_ ?_
 ·simp only[p6,simprocAttr];exact⟨by trivial,dr8 _,fun m _ h=>by omega,t8.refl _⟩
 rintro k f w2 hk ⟨h46,hkl,hno,hx2⟩;simp only[dq9,p6,simprocAttr]at hk;obtain⟨g0,g1,g2,g6,g7,g44,g45,_⟩:=hk;simp only[i5,n8,simprocAttr,h46,g45];refine m8 (fun hc2=>?_) (fun hc2=>?_);rotate_left
 ·have hge:k=it.s.args.length:=by simp at hc2;omega
  subst hge;simp only[i5,simprocAttr,g0,g1,g2];refine B2 (H4 gb T cs0 q 6 ((j:Int)+1) n w2 (hblk w2 (hx01.trans hx2)) hcq) (fun w3 hx3=>?_);obtain⟨w4,q1,q2,hx4⟩:=hend w3 ⟨q,6,(j:Int)+1,n⟩ (hx1.trans (hx2.trans hx3));simp only[i5,simprocAttr,g6,q1];refine L6 results63 (ad:=⟨w.heap.size,0,none⟩) (by simp only[p6,simprocAttr];exact g6) q2 ?_;refine⟨?_,hx4⟩;rw[hGv,dz6.2 fun z hz=>?_];obtain⟨m,hm⟩:=dB7.1 hz;rw[List.getElem?_zip_eq_some]at hm;obtain⟨hml,hme⟩:=dr4.1 hm.1;have:=hno m hml hml;rw[hme]at this;simp[this]
 have hlt:k<it.s.args.length:=by simpa using hc2
 have hin:=hva.inS hlt;obtain⟨sv,hsv,hld⟩:=E4 (P:=prog) (t:=101) hva (b7 hx2) (dq7 hlt) az1 az3 at1 S4;rw[S4]at hld;have hnok:=hno;have hargk:∀(b:Bool),(it.s.args[k].ref&&decide (it.s.args[k].name=n))=b→(b=false→∀m (hm:m<it.s.args.length),m<k+1→(it.s.args[m].ref&&decide (it.s.args[m].name=n))=false):=fun b hb hbf m hm hmk=>by
  rcases dv3 m k with h|h
  ·exact hno m hm h
  ·obtain rfl:m=k:=by omega
   rw[hb,hbf]
 have hltp:k<pas.length:=by omega
 have hfind:(it.s.args[k].ref&&decide (it.s.args[k].name=n))=true→(it.s.args.zip pas).find? (fun x=>x.1.ref&&decide (x.1.name=n))=some (it.s.args[k],pas[k]):=fun ht=>by
  rw[dz3];refine⟨ht,k,by rw[List.length_zip];omega,by rw[List.getElem_zip],fun m hm=>?_⟩;rw[List.getElem_zip];have:=hno m (by omega) hm;simp only[this];rfl
 have hatpa:=hvpa.at_ (i:=k) (x:=pas[k]) (dq7 hltp);have hinpa:=hvpa.inS (k:=k) hltp;have hz2:A3.sz Pa=2:=rfl;rw[hz2]at hatpa;obtain⟨_,sdpa⟩:=hatpa.pa;generalize pas[k]=pa at hfind sdpa;generalize it.s.args[k]=ag at hsv hargk hfind;obtain⟨d3,wz3,w3,hal3,hst3,hx3,hat3⟩:=aI6 (hsv.mono (b7 hx2)) (d7 _);obtain⟨_,ldg,_⟩:=hat3.ar;have l3:=ldg w3 (d7 _);have hx13:=hx2.trans hx3;cases hrf:ag.ref
 ·rw[hrf]at l3;simp only[i5,n8,z6,simprocAttr,h46,g44,hin,hld,hal3,hst3,l3];exact⟨k+1,by omega,by rw[A8 k (by omega)],by omega,hargk false (by rw[hrf];rfl) rfl,hx13⟩
 rw[hrf]at l3;rcases dq8 (decide (ag.name=n))with h6|h6;rotate_left
 ·simp only[i5,n8,z6,simprocAttr,h46,g2,g44,hin,hld,hal3,hst3,l3,h6];exact⟨k+1,by omega,by rw[A8 k (by omega)],by omega,hargk false (by rw[hrf,h6];rfl) rfl,hx13⟩
 have hx03:=hx01.trans hx13;have hx03d:=hx03.trans (o7.drew w3);have hh3:∀w',o7 w3.drew w'→B5 (i4 w) (i4 w'):=fun w' h=>b7 (hx03d.trans h);have t0:∀K f d w0',I1 prog (fun w'=>o7 w3.drew w') (Instr.loadAt 78 (.pointer (some ⟨gb,0,none⟩))) K f d w0'=K (C4 f d (.pointer (some a))) w0':=fun K f d w0'=>D5 (w0:=w3.drew) (t8.refl _) fun w' h=>E9 (i:=0) (hblk w' (hx03d.trans h)) hc0 bn5;have t1:=sdb (fun w'=>o7 w3.drew w') w3.drew (t8.refl _) hh3;have t2:=sdp (fun w'=>o7 w3.drew w') w3.drew (t8.refl _) hh3;have t3:=sdr (fun w'=>o7 w3.drew w') w3.drew (t8.refl _) hh3;have t4:=sdpa (fun w'=>o7 w3.drew w') w3.drew (t8.refl _) hh3;have t5:=sdv2 (fun w'=>o7 w3.drew w') w3.drew (t8.refl _) fun w' h=>b7 ((hx13.trans (o7.drew w3)).trans h);simp only[i5,n8,z6,simprocAttr,h46,g2,g44,hin,hld,hal3,hst3,l3,h6];refine C0 (fun w'=>o7 w3.drew w') 26 (A9 [0,1,2,3,4,5,6,7,8,9,10,11,12,13,14,15,16,17,22,18,19,20,21,23,24,25]) ?_;simp only[D2,A9,i5,n8,simprocAttr,g0,g1,g7,t0,t1,t2,t5];refine B2 (ao0 a (y5 p) p sv2 it.s w3.drew (ha.mono (b7 hx03d)) rfl hr.may (hsv2.mono (b7 (hx13.trans (o7.drew w3))))) (fun w4 hx4=>⟨hx4,?_⟩);rw[hkp];have hx04:=hx03d.trans hx4;simp only[D2,i5,n8,z6,simprocAttr,t3,t4,hinp,hinpa];refine B2 (H4 gb T cs0 q 6 ((j:Int)+1) pa.name w4 (hblk w4 hx04) hcq) (fun w5 hx5=>?_);obtain⟨w6,q1,q2,hx6⟩:=hend w5 ⟨q,6,(j:Int)+1,pa.name⟩ (hx1.trans (((hx13.trans (o7.drew w3)).trans hx4).trans hx5));simp only[i5,simprocAttr,g6,q1];refine L6 results63 (ad:=⟨w.heap.size,0,none⟩) (by simp only[p6,simprocAttr];exact g6) q2 ?_;refine⟨?_,hx6⟩;rw[hGv,hfind (by rw[hrf,h6];rfl)]
theorem cO2(y:Vx)(w:World){h:Hp}(hw:B5 h (i4 w)):∃v w',(Instr.buildSlice 30 1 #[(0,.agg (A6.cells y).toArray)]).run prog w = .ok v w'∧B0 h w' 36 v [y]∧o7 w w'∧(∀b,A4 v b→w.heap.size≤b):=
 lit (P:=prog) (w:=w) (h:=h) (α:=Vx) (xs:=[.agg (A6.cells y).toArray]) (ys:=[y]) (parts:=#[(0,.agg (A6.cells y).toArray)]) (n:=1) bL5 rfl (V3.2 rfl) (fun x hx=>by rw[dt8.1 hx];rfl) rfl rfl (by simp) (by simp) hw
theorem cz2{h:Hp}{w:World}{v:Value}{l:List Vx}(ho:B0 h w 36 v l)(y:Vx)(hl:l.length≤1000000)(hw:B5 h (i4 w)){e:TypeId}:
  (Instr.buildSlice 30 1 #[(0,.agg (A6.cells y).toArray)]).run prog w = .ok (.slice (some ⟨w.heap.size,0,none⟩) 1 1) (w.alloc (.cells (A6.cells y).toArray 36)) ∧
  ∃v' w',(Builtin.append_ #[30,30] e #[v,.slice (some ⟨w.heap.size,0,none⟩) 1 1]).run prog (w.alloc (.cells (A6.cells y).toArray 36)) = .ok v' w'∧B0 h w' 36 v' (l++[y])∧t8 (A4 v) w w'∧D7 w v v':=by
 have:=push (P:=prog) (e:=e) bL5 rfl ho (x:=.agg (A6.cells y).toArray) (y:=y) ((A6.iff_ _ _ _).2 rfl) (by omega) (by omega) hw;exact this
theorem cM5(s:St):∀ag∈s.args,S6 ag.x≤O6 s:=by
 cases s;intro ag h;have:=aI9 h;unfold ak3 at this;simp only[St.args]at this;simp only[O6];omega
theorem bV5(gb:Nat)(T:TypeId)(cs0:Array Value)(a:Addr)(p:Pg)(q:A7)(pl:Int)(n:A7)(w:World)(hb:w.heap[gb]?=some (.cells cs0 T (0,0)))(hc0:cs0[0]?=some (.pointer (some a)))(hcq:cs0[2]?=some (o9 q))(ha:At (i4 w) a (y5 p))(hr:E8 p)(hw:D1 p≤1000000)
  (hpl:pl = -1∨∃j:Nat,pl=(j:Int)+1∧j<(b9 p).l.length) :
  p7 prog 64 #[.pointer (some ⟨gb,0,none⟩),.int .i64 pl,o9 n] w fun u w'=>(B0 (i4 w) w' 36 u ((y5 p).takers q pl n)∧o7 w w'):=by
 refine p8 [.pointer (some ⟨gb,0,none⟩),.int .i64 pl,o9 n] func64 rfl ?_;have hblk:∀w',o7 w w'→w'.heap[gb]?=some (.cells cs0 T (0,0)):=fun w' hx=>(hx.block gb (dr3.1 hb).1 id).trans hb;have hse:Value.string {data:=#[]}=o9 e0:=rfl;rcases dq8 (decide (pl = -1))with h0|h0
 ·have e0':=dr0 h0;simp only[i5,n8,simprocAttr,h0];refine B2 (H4 gb T cs0 q 4 0 n w hb hcq) (fun w1 hx1=>?_);obtain⟨u,w2,q1,q2,q3,_⟩:=cO2 ⟨q,4,0,n⟩ w1 (b7 hx1);simp only[i5,simprocAttr,q1];refine o6 results64 ?_;simp only[p6,simprocAttr];refine⟨?_,hx1.trans q3⟩;unfold Bk.takers;rw[if_pos e0'];exact q2
 have hne:=dr2 h0;obtain⟨j,rfl,hjl⟩:∃j:Nat,pl=(j:Int)+1∧j<(b9 p).l.length:=by
  rcases hpl with h|h
  ·exact absurd h hne
  ·exact h
 have h200:=G9 hr.may;obtain⟨sh,vw,vd,_,vi,vo,has,hvw,hvd,_,hvi,hvo,ldb,sdb⟩:=ha.book rfl;obtain⟨vl,_,_,hvl,_,_,hpg,lds,_⟩:=has.sh;rw[J0]at hpg;obtain⟨vg,vp,hvg,hvp,ldp,sdp⟩:=hpg.pg;have lb0:=ldb w (d7 _);have ls0:=lds w (d7 _);have k0:(Instr.loadAt 78 (.pointer (some ⟨gb,0,none⟩))).run prog w = .ok (.pointer (some a)) w:=E9 (i:=0) hb hc0 bn5;have hwj:IntKind.i64.wrap ((j:Int)+1-1)=(j:Int):=by rw[K6 _ (by omega)];omega
 have hinl:=hvl.inS (k:=j) hjl;have hatl:=hvl.at_ (i:=j) (x:=(b9 p).l[j]) (dq7 hjl);have hz17:A3.sz It=17:=rfl;rw[hz17]at hatl;have hmem:=dr5 hjl;have hfits:=hr.fits _ hmem;have hwts:=Z5 p hw _ hmem;have hite:(b9 p).it ((j:Int)+1)=(b9 p).l[j]:=by
  unfold Sh.it;rw[show((j:Int)+1-1).toNat=j by omega,List.getD,dq7 hjl];rfl
 have hGv:(y5 p).takers q ((j:Int)+1) n=if((b9 p).l[j]).s.kind≠4 then[⟨q,2,(j:Int)+1,e0⟩]
   else(((((b9 p).l[j]).s.args.zip ((y5 p).callee ((b9 p).l[j]).s).params).filter fun x=>(U9 x.1).contains n).map fun x=>(⟨q,5,(j:Int)+1,x.2.name⟩:Vx)) ++
    if(O7 p n&&(F5 (Y8 p) ((b9 p).pr ((b9 p).l[j]).s.proc)).contains n)=true then[(⟨q,5,(j:Int)+1,n⟩:Vx)]else[]:=by
  have hs:(y5 p).s=b9 p:=rfl;have hi:(y5 p).ins=Y8 p:=rfl;unfold Bk.takers;rw[if_neg hne,hs,hi,hite,J0]
 generalize(b9 p).l[j]=it at hatl hfits hGv hwts;have hwta:∀ag∈it.s.args,S6 ag.x≤1000000:=fun ag h=>dr7 (cM5 it.s ag h) hwts;obtain⟨hats,_,_⟩:=hatl.it;obtain⟨sv,hsv,ldv,_⟩:=hats.st_v;have lv0:=ldv w (d7 _);obtain⟨d,wz,w1,hal1,hst1,hx1,hat⟩:=aI7 hsv (d7 _);obtain⟨_,va,_,_,_,hva,_,_,_,ldd,_⟩:=hat.st;obtain⟨sv2,hsv2,_,sdv2⟩:=hat.st_v;have l1:=ldd w1 (d7 _);rcases dq8 (decide (it.s.kind=4))with h4|h4;rotate_left
 ·have e4:=dr2 h4;simp only[i5,n8,z6,simprocAttr,h0,k0,lb0,ls0,hwj,hinl,lv0,hal1,hst1,l1,h4,hse];refine B2 (H4 gb T cs0 q 2 ((j:Int)+1) e0 w1 (hblk w1 hx1) hcq) (fun w2 hx2=>?_);obtain⟨u,w3,q1,q2,q3,_⟩:=cO2 ⟨q,2,(j:Int)+1,e0⟩ w2 (b7 (hx1.trans hx2));simp only[i5,simprocAttr,q1];refine o6 results64 ?_;simp only[p6,simprocAttr];refine⟨?_,(hx1.trans hx2).trans q3⟩;rw[hGv,if_pos e4];exact q2
 have e4:=dr0 h4;obtain⟨c,hc⟩:=ad1 (hfits e4);rw[if_neg (by simpa using e4),bs0 hc,hc.pr]at hGv;have hlen:=hc.len;have hpl8:=O4 hr.may hc.lt;have hatp:=hvp.at_ (i:=c) (x:=p.procs[c]'hc.lt) (dq7 hc.lt);have hinp:=hvp.inS (k:=c) hc.lt;have hz5:A3.sz Pr=5:=rfl;rw[hz5]at hatp;obtain⟨vpa,_,_,_,hvpa,_,_,_,ldr,_⟩:=hatp.pr;have hkp:=hc.pr;generalize(p.procs[c]'hc.lt).params=pas at hGv hlen hpl8 hvpa;obtain⟨hrow,hrise,hfew⟩:=(aH3 hr hw).row hc.lt;generalize F5 (Y8 p) (c:Int)=row at hrow hrise hfew hGv;obtain⟨ui,hui,hci⟩:=R.row hvi (show(y5 p).ins[c]?=some row from hrow);have hini:=hvi.inS (k:=c) (show c<(Y8 p).length from(dr4.1 hrow).1);have hSa:=hva.isS;have hna:=hva.vlen;have hx1d:=hx1.trans (o7.drew w1);have t0:∀K f d w0',I1 prog (fun w'=>o7 w1.drew w') (Instr.loadAt 78 (.pointer (some ⟨gb,0,none⟩))) K f d w0'=K (C4 f d (.pointer (some a))) w0':=fun K f d w0'=>D5 (w0:=w1.drew) (t8.refl _) fun w' h=>E9 (i:=0) (hblk w' (hx1d.trans h)) hc0 bn5;have t5:=sdv2 (fun w'=>o7 w1.drew w') w1.drew (t8.refl _) fun w' h=>b7 ((o7.drew w1).trans h);simp only[i5,n8,z6,simprocAttr,h0,k0,lb0,ls0,hwj,hinl,lv0,hal1,hst1,l1,h4];refine C0 (fun w'=>o7 w1.drew w') 5 (A9 [0,1,2,3,4]) ?_;simp only[D2,A9,i5,n8,simprocAttr,t0,t5];refine B2 (ao0 a (y5 p) p sv2 it.s w1.drew (ha.mono (b7 hx1d)) rfl hr.may (hsv2.mono (b7 (o7.drew w1)))) (fun w2 hx2=>?_);rw[hkp];have hx12:=(o7.drew w1).trans hx2;have l2:=ldd w2 (b7 hx12);have hzl:(it.s.args.zip pas).length=it.s.args.length:=by rw[List.length_zip];omega
 simp only[i5,n8,simprocAttr,l2,hSa,hna];refine n9 [0,1,2,7,9,47,48] (σ:=Nat×Value) (fun t f w'=>f 49 = .int .i64 t.1∧f 8=t.2∧t.1≤it.s.args.length∧B0 (i4 w1) w' 36 t.2 ((((it.s.args.zip pas).take t.1).filter fun x=>(U9 x.1).contains n).map fun x=>(⟨q,5,(j:Int)+1,x.2.name⟩:Vx))∧o7 w1 w') (fun t=>it.s.args.length-t.1) (0,.slice none 0 0) ?_ ?_
 ·simp only[p6,simprocAttr];exact⟨by trivial,by trivial,dr8 _,B0.nil _ _ _,hx12⟩
 rintro⟨k,u⟩ f w3 hk ⟨h49,h8,hkl,ho3,hx3⟩;simp only at h49 h8 hkl ho3;simp only[dq9,p6,simprocAttr]at hk;obtain⟨g0,g1,g2,g7,g9,g47,g48,_⟩:=hk;have hcnt:((((it.s.args.zip pas).take k).filter fun x=>(U9 x.1).contains n).map fun x=>(⟨q,5,(j:Int)+1,x.2.name⟩:Vx)).length≤k:=by
  rw[dr9];refine dr7 (dt9 _ _) ?_;rw[ds3];omega
 have hx03:=hx1.trans hx3;simp only[i5,n8,simprocAttr,h49,g48];refine m8 (fun hc2=>?_) (fun hc2=>?_)
 ·have hlt:k<it.s.args.length:=by simpa using hc2
  have hltp:k<pas.length:=by omega
  have hltz:k<(it.s.args.zip pas).length:=by omega
  have hin:=hva.inS hlt;obtain⟨sv,hsv,hld⟩:=E4 (P:=prog) (t:=101) hva (b7 hx3) (dq7 hlt) az1 az3 at1 S4;rw[S4]at hld;have htk:=aD1 (fun x:Ar×Pa=>(U9 x.1).contains n) (fun x=>(⟨q,5,(j:Int)+1,x.2.name⟩:Vx)) _ hltz;rw[List.getElem_zip]at htk;simp only at htk;have hwk:=hwta _ (dr5 hlt);have hatpa:=hvpa.at_ (i:=k) (x:=pas[k]) (dq7 hltp);have hinpa:=hvpa.inS (k:=k) hltp;have hz2:A3.sz Pa=2:=rfl;rw[hz2]at hatpa;obtain⟨ldpa,_⟩:=hatpa.pa;generalize pas[k]=pa at htk ldpa;generalize it.s.args[k]=ag at hsv htk hwk;generalize hxs:(((it.s.args.zip pas).take k).filter fun x=>(U9 x.1).contains n).map (fun x=>(⟨q,5,(j:Int)+1,x.2.name⟩:Vx))=xs at ho3 htk hcnt;obtain⟨d4,wz4,w4,hal4,hst4,hx4,hat4⟩:=aI6 (hsv.mono (b7 hx3)) (d7 _);obtain⟨sa,hsa,ldsa,_⟩:=hat4.ar_v;have l4:=ldsa w4 (d7 _);have hspl:(U9 ag).length≤1000000000:=by
   unfold U9;split
   ·simp
   ·have:=aa8 ag.x;omega
  simp only[i5,n8,z6,simprocAttr,h49,g47,hin,hld,hal4,hst4,l4];refine z7 (bV2 sa ag w4 hsa hwk) ?_;rintro us w5 ⟨hos,hx5⟩;have hx15:=(hx3.trans hx4).trans hx5;have hx05:=hx1.trans hx15;simp only[i5,simprocAttr,g2];refine C7 (O3 us (U9 ag) n w5 (hos.rw_ (b7 hx5)) hspl) ?_;rcases dq8 ((U9 ag).contains n)with h6|h6;rotate_left
  ·rw[h6,if_neg (by simp),du2]at htk;simp only[i5,n8,simprocAttr,h6,h8,h49];refine⟨(k+1,u),by simp only[];omega,by simp only[];rw[A8 k (by omega)],by trivial,by simp only[];omega,?_,hx15⟩;simp only[];rw[htk];exact(ho3.ext hx4).ext hx5
  rw[h6,if_pos rfl]at htk;have hle5:=b7 hx05;have k5:(Instr.loadAt 78 (.pointer (some ⟨gb,0,none⟩))).run prog w5 = .ok (.pointer (some a)) w5:=E9 (i:=0) (hblk w5 hx05) hc0 bn5;have lb5:=ldb w5 hle5;have lp5:=ldp w5 hle5;have lr5:=ldr w5 hle5;have lpa5:=ldpa w5 hle5;simp only[i5,n8,z6,simprocAttr,h6,h8,g0,g1,g9,k5,lb5,lp5,hinp,lr5,hinpa,lpa5];refine B2 (H4 gb T cs0 q 5 ((j:Int)+1) pa.name w5 (hblk w5 hx05) hcq) (fun w6 hx6=>?_);obtain⟨p1,u7,w7,p2,p3,p4,p5⟩:=cz2 (e:=30) (((ho3.ext hx4).ext hx5).ext hx6) ⟨q,5,(j:Int)+1,pa.name⟩ (by omega) (b7 (hx15.trans hx6));simp only[i5,n8,simprocAttr,p1,p2,h49];refine⟨(k+1,u7),by simp only[];omega,by simp only[];rw[A8 k (by omega)],by trivial,by simp only[];omega,?_,(((ho3.ext hx4).ext hx5).ext hx6).ext2 (hx15.trans hx6) p4⟩;simp only[];rw[htk];exact p3
 have hge:k=it.s.args.length:=by simp at hc2;omega
 subst hge;rw[dv8 (by omega)]at ho3 hcnt;generalize hA:((it.s.args.zip pas).filter fun x=>(U9 x.1).contains n).map (fun x=>(⟨q,5,(j:Int)+1,x.2.name⟩:Vx))=A at hGv ho3 hcnt;have hle3:=b7 hx03;have k3:(Instr.loadAt 78 (.pointer (some ⟨gb,0,none⟩))).run prog w3 = .ok (.pointer (some a)) w3:=E9 (i:=0) (hblk w3 hx03) hc0 bn5;have lb3:=ldb w3 hle3;have hli3:=G1 (P:=prog) (t:=22) hci hle3 N0;simp only[i5,n8,simprocAttr,g0,g2,k3];refine C7 (aL1 a (y5 p) p n w3 (ha.mono hle3) rfl hr.may) ?_;rcases dq8 (O7 p n)with h7|h7;rotate_left
 ·rw[h7,Bool.false_and,if_neg (by simp),du2]at hGv;simp only[i5,simprocAttr,h7,h8];refine o6 results64 ?_;simp only[p6,simprocAttr];rw[hGv];exact⟨ho3.backN hx1,hx03⟩
 rw[h7,dy1]at hGv;simp only[i5,n8,z6,simprocAttr,h7,g0,g2,g9,k3,lb3,hini,hli3];refine C7 (ab9 ui row n w3 (A3.mono hle3 hui) (by omega) hrise) ?_;rcases dq8 (row.contains n)with h8'|h8';rotate_left
 ·rw[h8',if_neg (by simp),du2]at hGv;simp only[i5,simprocAttr,h8,h8'];refine o6 results64 ?_;simp only[p6,simprocAttr];rw[hGv];exact⟨ho3.backN hx1,hx03⟩
 rw[h8',if_pos rfl]at hGv;simp only[i5,simprocAttr,h8,h8',g0,g1,g2];refine B2 (H4 gb T cs0 q 5 ((j:Int)+1) n w3 (hblk w3 hx03) hcq) (fun w4 hx4=>?_);obtain⟨p1,u5,w5,p2,p3,p4,p5⟩:=cz2 (e:=30) (ho3.ext hx4) ⟨q,5,(j:Int)+1,n⟩ (by omega) (b7 (hx3.trans hx4));simp only[i5,simprocAttr,p1,p2];refine o6 results64 ?_;simp only[p6,simprocAttr];rw[hGv];exact⟨p3.backN hx1,hx1.trans ((ho3.ext hx4).ext2 (hx3.trans hx4) p4)⟩
theorem aY9{α:Type}[DecidableEq α]:∀(l:List α),I6 l=ae8 (fun a b=>decide (a=b)) l
 | []=>rfl
 | [x]=>rfl
 | x::y::l=>by
  have ih:=aY9 (y::l);rw[I6,ih];simp only[ae8,ai4];by_cases h:x=y
  ·subst h;simp
  ·have h':¬y=x:=fun e=>h e.symm;simp[h,h']
def bd6(a b:Eg):Bool:=decide (a=b)
theorem bP7{h:Hp}{w:World}{v:Value}{xs:List Eg}(ho:B0 h w 60 v xs)(hl:xs.length≤1000000000)(hh:B5 h (i4 w)):
  p7 prog 113 #[v] w fun u w'=>(B0 h w' 60 u (I6 xs)∧t8 (A4 v) w w'∧∀b,A4 u b→A4 v b):=by
 refine p8 [v] func113 rfl ?_;rw[aY9];have hEq:(fun a b:Eg=>decide (a=b))=bd6:=rfl;rw[hEq];have hS:=ho.isS;have hn:=ho.vlen;have hvc:=ho.vcap;have hz:A3.sz Eg=9:=rfl;rcases dq8 (decide ((xs.length:Int)<2))with h2|h2
 ·simp only[i5,n8,simprocAttr,hS,hn,h2];refine o6 results113 ?_;simp only[p6,simprocAttr];have hlt:xs.length<2:=by have:=dr0 h2;omega
  have:=aa3 bd6 xs xs.length (ds5 _) fun j hj h1 h2=>by omega
  rw[ds2]at this;exact⟨by rw[this];exact ho,t8.refl _,fun b hb=>hb⟩
 have h2':2≤xs.length:=by have:=dr2 h2;omega
 simp only[i5,n8,simprocAttr,hS,hn,h2];refine n9 [0] (σ:=Nat) (fun i f w'=>f 3 = .int .i64 i∧1≤i∧i≤xs.length∧(∀j (hj:j<xs.length),1≤j→j<i→bd6 xs[j] (xs[j-1]'(by omega))=false)∧o7 w w') (fun i=>xs.length-i) 1 ?_ ?_
 ·simp only[p6,simprocAttr];exact⟨by trivial,by simp,by omega,fun j _ h1 h2=>by omega,t8.refl _⟩
 rintro i f w2 hk ⟨h3,h1i,hil,hno,hx2⟩;simp only[dq9,p6,simprocAttr]at hk;obtain⟨e0,_⟩:=hk;simp only[i5,n8,simprocAttr,h3,e0,hS,hn];refine m8 (fun hc=>?_) (fun hc=>?_);rotate_left
 ·have hge:i=xs.length:=by simp at hc;omega
  subst hge;simp only[i5,simprocAttr,e0];refine o6 results113 ?_;simp only[p6,simprocAttr];have:=aa3 bd6 xs xs.length (ds5 _) hno;rw[ds2]at this;exact⟨by rw[this];exact ho.ext hx2,t8.up hx2,fun b hb=>hb⟩
 have hlt:i<xs.length:=by simpa using hc
 have hlt1:i-1<xs.length:=by omega
 have hR:R (i4 w2) v xs:=(ho.ext hx2).rw_ (p9 hh (b7 hx2));have hin:=ho.inS hlt;have hin1:=ho.inS hlt1;have hwi:IntKind.i64.wrap ((i:Int)-1)=((i-1:Nat):Int):=by rw[K6 _ (by omega)];omega
 obtain⟨vx,hvx,_,sx⟩:=(hR.at_ (dq7 hlt)).eg_v;obtain⟨vy,hvy,_,sy⟩:=(hR.at_ (dq7 hlt1)).eg_v;obtain rfl:=hvx.N;obtain rfl:=hvy.N;have s1:=sx (fun w'=>o7 w2.drew w') w2.drew (t8.refl _) fun w' h=>b7 ((o7.drew w2).trans h);have s2:=sy (fun w'=>o7 w2.drew w') w2.drew (t8.refl _) fun w' h=>b7 ((o7.drew w2).trans h);rw[hz]at s1 s2;have hx03:=hx2.trans (o7.drew w2);have hql:=fun w0 a b=>cR7 w0 a b xs[i] xs[i-1];have hqd:decide (xs[i]=xs[i-1])=bd6 xs[i] xs[i-1]:=rfl;rw[hqd]at hql;simp only[i5,simprocAttr];refine C0 (fun w'=>o7 w2.drew w') 9 (A9 [0,1,2,3,4,5,6,7,8]) ?_;simp only[D2,A9,i5,n8,z6,simprocAttr,h3,e0,hin,hin1,hwi,s1,s2];rcases dq8 (bd6 xs[i] xs[i-1])with hq|hq;rotate_left
 ·simp only[i5,n8,simprocAttr,V2,A6.cells,hql,hq,h3];refine⟨i+1,by omega,by rw[A8 i (by omega)],by omega,by omega,fun j hj h1 h2=>?_,hx03⟩;rcases dv3 j i with h|h
  ·exact hno j hj h1 h
  ·obtain rfl:j=i:=by omega
   exact hq
 have c1:decide ((i:Int)≤(xs.length:Int))=true:=by simp;omega
 have c2:decide ((xs.length:Int)≤(vcap v:Int))=true:=by simp;omega
 have hd:∀k:Nat,isS (reS v k xs.length 9)=true∧vlen (reS v k xs.length 9)=xs.length-k:=fun k=>by
  rcases ho with⟨rfl,rfl⟩|⟨b,c,cur,rfl,_⟩
  ·exact⟨rfl,rfl⟩
  ·exact⟨rfl,rfl⟩
 obtain⟨hSd,hnd⟩:=hd i;have hni:((xs.length-i:Nat):Int)=(xs.length:Int)-i:=by omega
 simp only[i5,n8,I0,simprocAttr,V2,A6.cells,hql,hq,h3,e0,hS,hn,c1,c2];refine n9 [0,4] (σ:=Nat×Nat×List Eg) (fun s f w'=>f 5 = .int .i64 s.1∧f 3 = .int .i64 s.2.1∧1≤s.1∧i+s.1≤xs.length∧s.2.1+1≤i+s.1∧s.2.2.length=xs.length∧B0 h w' 60 v s.2.2∧(∀j (hj:j<xs.length) (hj2:j<s.2.2.length),i+s.1≤j+1→s.2.2[j]=xs[j])∧s.2.2.take s.2.1=ae8 bd6 (xs.take (i+s.1))∧t8 (A4 v) w w') (fun s=>xs.length-(i+s.1)) (1,i,xs) ?_ ?_
 ·simp only[p6,simprocAttr];refine⟨by trivial,by trivial,by trivial,by omega,by omega,by trivial,ho.ext hx03,fun j _ _ _=>by trivial,?_,t8.up hx03⟩;rw[ap0 bd6 xs hlt (by omega),if_pos hq,aa3 bd6 xs i (by omega) hno]
 rintro⟨m,c,ys⟩ f4 w4 hk ⟨h7,h5c,h1m,him,hcm,hyl,hoy,hsuf,hpre,hm4⟩;simp only at h7 h5c h1m him hcm hyl hoy hsuf hpre;simp only[dq9,p6,simprocAttr]at hk;obtain⟨g0,g6,_⟩:=hk;rw[e0]at g0;have hh4:B5 h (i4 w4):=H9 hh hm4 fun b hb=>ho.free hb;have hlen:decide ((m:Int)<((xs.length-i:Nat):Int))=decide (i+m<xs.length):=by rw[dv1];omega
 simp only[i5,n8,simprocAttr,h7,g6,hSd,hnd,hlen];refine m8 (fun hc=>?_) (fun hc=>?_)
 ·have hm':i+m<xs.length:=dr0 hc;have hm1:i+m-1<xs.length:=by omega
  have hRy:R (i4 w4) v ys:=hoy.rw_ hh4;have hsub:=bE0 hRy (show i≤xs.length by omega) (show xs.length≤ys.length by omega);rw[hz]at hsub;have hyt:(ys.take xs.length).drop i=ys.drop i:=by rw[←hyl,ds2]
  rw[hyt]at hsub;have hg1:(ys.drop i)[m]?=some xs[i+m]:=by
   rw[dA8,dq7 (by omega),hsuf (i+m) hm' (by omega) (by omega)]
  have hg2:(ys.drop i)[m-1]?=some xs[i+m-1]:=by
   rw[dA8,show i+(m-1)=i+m-1 by omega,dq7 (by omega),hsuf (i+m-1) hm1 (by omega) (by omega)]
  have hin4:=hsub.inS (dr4.1 hg1).1;have hin5:=hsub.inS (dr4.1 hg2).1;have hwm:IntKind.i64.wrap ((m:Int)-1)=((m-1:Nat):Int):=by rw[K6 _ (by omega)];omega
  obtain⟨ux,hux,lx,tx⟩:=(hsub.at_ hg1).eg_v;obtain⟨uy,huy,_,ty⟩:=(hsub.at_ hg2).eg_v;obtain rfl:=hux.N;obtain rfl:=huy.N;have t1:=tx (fun w'=>o7 w4.drew w') w4.drew (t8.refl _) fun w' h=>b7 ((o7.drew w4).trans h);have t2:=ty (fun w'=>o7 w4.drew w') w4.drew (t8.refl _) fun w' h=>b7 ((o7.drew w4).trans h);rw[hz]at t1 t2 lx;have hql4:=fun w0 a b=>cS9 w0 a b xs[i+m] xs[i+m-1];have hqd4:decide (xs[i+m]=xs[i+m-1])=bd6 xs[i+m] xs[i+m-1]:=rfl;rw[hqd4]at hql4;simp only[i5,simprocAttr];refine C0 (fun w'=>o7 w4.drew w') 9 (A9 [0,1,2,3,4,5,6,7,8]) ?_;simp only[D2,A9,i5,n8,z6,simprocAttr,h7,g6,hin4,hin5,hwm,t1,t2];have hx45:=o7.drew w4;have ho5:=hoy.ext hx45;have hm5:t8 (A4 v) w w4.drew:=hm4.chain (t8.up hx45) fun _ _ h=>h;have hct:=ap0 bd6 xs (k:=i+m) hm' (by omega);rcases dq8 (bd6 xs[i+m] xs[i+m-1])with hq4|hq4
  ·rw[if_pos hq4]at hct;simp only[i5,n8,simprocAttr,V2,A6.cells,hql4,hq4,h7];refine⟨(m+1,c,ys),by simp only[];omega,by simp only[];rw[A8 m (by omega)],h5c,by simp only[];omega,by simp only[];omega,by simp only[];omega,hyl,ho5,fun j hj hj2 h=>hsuf j hj hj2 (by simp only at h;omega),?_,hm5⟩;simp only[];rw[hpre,←hct,dA5]
  ·rw[if_neg (by rw[hq4];simp)]at hct;have hcy:c<ys.length:=by omega
   have lx5:=lx w4.drew (b7 hx45);obtain⟨w6,e6,ho6,hm6⟩:=bk8 (P:=prog) (t:=60) ho5 bw9 aS9 hcy xs[i+m];rw[hz]at e6;have hin6:=hoy.inS hcy;simp only[A6.cells]at lx5 e6;simp only[i5,n8,z6,simprocAttr,V2,A6.cells,hql4,hq4,h5c,g0,g6,h7,hin4,hin6,lx5,e6];refine⟨(m+1,c+1,ys.set c xs[i+m]),by simp only[];omega,by simp only[];rw[A8 m (by omega)],by simp only[];rw[A8 c (by omega)],by simp only[];omega,by simp only[];omega,by simp only[];omega,by simp only[dy4];exact hyl,ho6,fun j hj hj2 h=>?_,?_,hm5.chain hm6 fun _ _ h=>h⟩
   ·simp only at h ⊢;rw[List.getElem_set_ne (by omega)];exact hsuf j hj (by omega) (by omega)
   ·simp only[];have hcs:c<(ys.set c xs[i+m]).length:=by simpa using hcy
    rw[dr6 hcs,List.getElem_set_self,List.take_set_of_le (ds5 _),hpre,←hct,dA5]
 ·have hm':i+m=xs.length:=by have:=dr2 hc;omega
  rw[hm',ds2]at hpre;have hcl:c<ys.length:=by omega
  have c3:decide ((c:Int)≤(xs.length:Int))=true:=by simp;omega
  have c4:decide ((c:Int)≤(vcap v:Int))=true:=by simp;omega
  obtain⟨w6,e6,ho6,hm6,hb6⟩:=aV8 (P:=prog) (t:=32) (ty:=0) hoy rfl cQ4 rfl (by simp[Value.cells,Value.oneCell']) hcl;rw[hyl,hz]at e6;rw[hz]at ho6 hb6;simp only[i5,n8,I0,simprocAttr,bk5,h5c,g0,hS,hn,c2,c3,c4,e6];refine o6 results113 ?_;simp only[p6,simprocAttr];exact⟨by rw[←hpre];exact ho6,hm4.chain hm6 fun _ _ h=>h,hb6⟩
theorem bO2{h:Hp}{w:World}{v:Value}{xs:List Eg}(ho:B0 h w 60 v xs)(hl:xs.length≤1000000000)(hh:B5 h (i4 w)):
  p7 prog 65 #[v] w fun u w'=>(B0 h w' 60 u (bn0 xs)∧t8 (A4 v) w w'∧∀b,A4 u b→A4 v b):=by
 refine p8 [v] func65 rfl ?_;simp only[i5,n8,simprocAttr];refine z7 (bL6 ho hl fun a _ b _ h1 h2=>ct8 (cN4.eq0 h1 h2)) ?_;rintro _ w1 ⟨ho1,hm1⟩;simp only[i5,simprocAttr];refine z7 (bP7 ho1 (by rw[(G5 _ _).length_eq];exact hl) (H9 hh hm1 fun b hb=>ho.free hb)) ?_;rintro u w2 ⟨ho2,hm2,hb2⟩;simp only[i5,simprocAttr];refine o6 results65 ?_;simp only[p6,simprocAttr];exact⟨ho2,hm1.trans hm2,hb2⟩
theorem cm5{α:Type}{l:List α}(h:l.Nodup){i j:Nat}(hi:i<l.length)(hj:j<l.length)(e:l[i]=l[j]):i=j:=by
 refine dB4 fun hne=>?_;have h2:=dz0.1 h;rcases Nat.lt_or_gt_of_ne hne with h|h
 ·exact h2 i j hi hj h e
 ·exact h2 j i hj hi h e.symm
theorem cc6{n:A7}(h:K8 n=true):n≠Y0∧n≠I3∧n≠e0:=by
 refine⟨?_,?_,?_⟩<;>rintro rfl<;>exact absurd h (by decide)
theorem cL1:Y0≠I3∧Y0≠e0∧I3≠e0:=by decide
theorem aQ9{p:Pg}(hm:J6 p=true){i:Nat}(hi:i<p.procs.length):∃n m,R3 p.procs[i] n=some m:=by
 unfold J6 at hm;rw[dt0]at hm;have hgo:∀(l:List Pr) (n:Int),(l.foldlM (fun n f=>R3 f n) n).isSome=true→∀f∈l,∃n m,R3 f n=some m:=by
  intro l
  induction l with
  | nil=>intro n _ f hf;simp at hf
  | cons g l ih=>
   intro n h f hf;rw[List.foldlM_cons]at h;obtain⟨k,hk⟩:=dw6.1 h;obtain⟨m,hm1,hm2⟩:=dx0.1 hk;rcases dt1.1 hf with rfl|hf
   ·exact⟨n,m,hm1⟩
   ·exact ih m (by rw[hm2];rfl) f hf
 exact hgo _ _ hm.2 _ (dr5 hi)
theorem aE8{f:Pr}{n m:Int}(h:R3 f n=some m):K8 f.name=true∧(∀a∈f.params,K8 a.name=true)∧(∀v∈f.vars,K8 v=true)∧G8 12 f.body n=some m:=by
 unfold R3 at h;split at h
 ·cases h
 ·rename_i hc;simp only[not_or,Bool.not_eq_false]at hc;refine⟨hc.2.2.1,?_,?_,h⟩
  ·have:=hc.2.2.2.2.2;rw[dx6]at this;exact this
  ·have:=hc.2.2.2.1;unfold O0 at this;rw[dx6]at this;exact this
theorem bI5{p:Pg}(hm:J6 p=true){i:Nat}(hi:i<p.procs.length):K8 p.procs[i].name=true∧(∀a∈p.procs[i].params,K8 a.name=true)∧(∀v∈p.procs[i].vars,K8 v=true):=by
 obtain⟨n,m,h⟩:=aQ9 hm hi;obtain⟨h1,h2,h3,_⟩:=aE8 h;exact⟨h1,h2,h3⟩
theorem bI4{p:Pg}(hm:J6 p=true):∀n∈p.globals,K8 n=true:=by
 unfold J6 at hm;simp only[dt0]at hm;have:=hm.1.2;unfold O0 at this;rw[dx6]at this;exact this
theorem cb4{p:Pg}(hm:J6 p=true){it:It}(hit:it∈(b9 p).l):(b9 p).l[(it.s.id-1).toNat]?=some it∧(b9 p).it it.s.id=it∧1≤it.s.id:=by
 obtain⟨j,hj⟩:=dB7.1 hit;have h:=X6 hm j it hj;have e:(it.s.id-1).toNat=j:=by omega
 refine⟨by rw[e];exact hj,?_,by omega⟩;unfold Sh.it;rw[e,List.getD,hj];rfl
theorem bB0{p:Pg}{i x y:Nat}(pt:at7 p i x y){it:It}(hit:it∈(b9 p).of i):it∈(b9 p).l:=by
 rw[pt.ok.of_]at hit;exact dz5 (dB8 hit)
theorem bb1{p:Pg}(K:Known p){i:Nat}(hi:i<p.procs.length):(b9 p).pr p.procs[i].name=(i:Int):=by
 obtain⟨k,hk,e,hn⟩:=ac4 (p:=p) (n:=p.procs[i].name) (dt7.2 ⟨_,dr5 hi,rfl⟩);rw[e];have hki:k=i:=by
  have h1:(p.procs.map (·.name))[k]'(by simpa using hk)=(p.procs.map (·.name))[i]'(by simpa using hi):=by simp[hn]
  exact cm5 K.names _ _ h1
 rw[hki]
theorem bl3{n:Nat}(f:Nat→List A7){i:Nat}(hi:i<n):F5 ((List.range n).map f) (i:Int)=f i:=by
 unfold F5;rw[dt5,List.getD,du5,dz8 hi];rfl
theorem cm1{l:List A7}{x:A7}:x∈S8 l↔x∈l:=(W0 l).mem_iff
section
variable {p:Pg} {i:Nat}
theorem bJ6(hm:J6 p=true)(hi:i<p.procs.length):F5 (J1 p) (i:Int)=C9 (aa9 p (H8 p (J1 p)) i):=by
 obtain⟨_,_,e⟩:=bJ5 hm
 conv=>lhs;rw[←e]
 exact bl3 _ hi
theorem cb3(hr:E8 p)(hw:D1 p≤1000000)(hi:i<p.procs.length):F5 (Y8 p) (i:Int)=C9 (aA3 p (J1 p) (M5 p (Y8 p)) (H8 p (J1 p)) i):=by
 obtain⟨_,_,e⟩:=cb2 hr hw
 conv=>lhs;rw[←e]
 exact bl3 _ hi
theorem cm6(hm:J6 p=true)(hi:i<p.procs.length){n:A7}(hn:n∈F5 (J1 p) (i:Int)):n=Y0∨K8 n=true:=by
 rw[bJ6 hm hi,Q4]at hn;have:=bw7 (aQ3 hn);rw[List.getD,dq7 hi]at this;simp only[dt1,ds4,dt7,dw8]at this;rcases this with h|h|⟨a,ha,rfl⟩
 ·exact .inl h
 ·exact .inr (bI4 hm n h)
 ·exact .inr ((bI5 hm hi).2.1 a ha)
theorem cw0(hr:E8 p)(hw:D1 p≤1000000)(hi:i<p.procs.length){n:A7}(hn:n∈F5 (Y8 p) (i:Int)):n∈p.globals∨n=Y0:=by
 rw[cb3 hr hw hi,Q4]at hn;unfold aA3 at hn;simpa using(dv2.1 hn).1
theorem cd1{l:List A7}(h:l.Pairwise (fun a b=>ltS a b=true)):l.Nodup:=aq3 h
theorem bU5(hi:i<p.procs.length):(y5 p).slotsIn (i:Int)=S8 (F5 (Y8 p) (i:Int)++p.procs[i].params.map (·.name)):=by
 unfold Bk.slotsIn;rw[Z8 hi];rfl
theorem bc0:(y5 p).slotsOut (i:Int)=S8 (F5 (J1 p) (i:Int)++[I3]):=rfl
theorem at0(hr:E8 p)(hw:D1 p≤1000000)(hi:i<p.procs.length):((y5 p).slotsIn (i:Int)).Nodup:=by
 rw[bU5 hi,(W0 _).nodup_iff,dw0];obtain⟨h1,h2,_⟩:=hr.proc i hi;unfold bd7 at h1 h2;refine⟨by rw[cb3 hr hw hi];exact cd1 (Q5 _),(dw0.1 h1).1,fun a ha b hb e=>?_⟩;subst e;rcases cw0 hr hw hi ha with h|h
 ·exact h2 a (dw4 _ hb) h
 ·obtain⟨q,hq,e⟩:=dt7.1 hb;exact(cc6 ((bI5 hr.may hi).2.1 q hq)).1 (by rw[e,h])
theorem ae0(hm:J6 p=true)(hi:i<p.procs.length):((y5 p).slotsOut (i:Int)).Nodup:=by
 rw[bc0,(W0 _).nodup_iff,dw0];refine⟨by rw[bJ6 hm hi];exact cd1 (Q5 _),by simp,fun a ha b hb e=>?_⟩;subst e;simp only[dt8]at hb;rcases cm6 hm hi ha with h|h
 ·exact cL1.1 (by rw[←h,hb])
 ·exact(cc6 h).2.1 hb
theorem bL3(hm:J6 p=true):(b9 p).l.Nodup:=by
 refine dz0.2 fun j k hj hk hjk e=>?_;have h1:=X6 hm j _ (dq7 hj);have h2:=X6 hm k _ (dq7 hk);rw[e]at h1;omega
theorem cy2(hm:J6 p=true){x y:Nat}(pt:at7 p i x y):((b9 p).of i).Nodup:=by
 rw[pt.ok.of_];exact((bL3 hm).sublist (List.take_sublist _ _)).sublist (List.drop_sublist _ _)
end
theorem aV6{b:Bk}{i:Int}{v:Vx}:v∈b.vert0 i↔v=⟨(b.s.fn i).name,1,0,e0⟩∨(∃n∈b.slotsIn i,v=⟨(b.s.fn i).name,3,0,n⟩)∨(∃n∈b.slotsOut i,v=⟨(b.s.fn i).name,4,0,n⟩) ∨
  ∃it∈b.s.of i,v=⟨(b.s.fn i).name,2,it.s.id,e0⟩∨(it.s.kind=4∧((∃n∈b.slotsIn (b.s.pr it.s.proc),v=⟨(b.s.fn i).name,5,it.s.id,n⟩)∨∃n∈b.callOut it.s,v=⟨(b.s.fn i).name,6,it.s.id,n⟩)):=by
 unfold Bk.vert0;simp only[ds4,dt8,dt7,dw1,List.mem_ite_nil_right];constructor
 ·rintro(((h|⟨n,hn,h⟩)|⟨n,hn,h⟩)|⟨it,hit,h|⟨h4,⟨n,hn,h⟩|⟨n,hn,h⟩⟩⟩)
  ·exact .inl h
  ·exact .inr (.inl ⟨n,hn,h.symm⟩)
  ·exact .inr (.inr (.inl ⟨n,hn,h.symm⟩))
  ·exact .inr (.inr (.inr ⟨it,hit,.inl h⟩))
  ·exact .inr (.inr (.inr ⟨it,hit,.inr ⟨h4,.inl ⟨n,hn,h.symm⟩⟩⟩))
  ·exact .inr (.inr (.inr ⟨it,hit,.inr ⟨h4,.inr ⟨n,hn,h.symm⟩⟩⟩))
 ·rintro(h|⟨n,hn,h⟩|⟨n,hn,h⟩|⟨it,hit,h|⟨h4,⟨n,hn,h⟩|⟨n,hn,h⟩⟩⟩)
  ·exact .inl (.inl (.inl h))
  ·exact .inl (.inl (.inr ⟨n,hn,h.symm⟩))
  ·exact .inl (.inr ⟨n,hn,h.symm⟩)
  ·exact .inr ⟨it,hit,.inl h⟩
  ·exact .inr ⟨it,hit,.inr ⟨h4,.inl ⟨n,hn,h.symm⟩⟩⟩
  ·exact .inr ⟨it,hit,.inr ⟨h4,.inr ⟨n,hn,h.symm⟩⟩⟩
theorem ag2{α β:Type}{f:α→β}(hf:∀a b,f a=f b→a=b){l:List α}(h:l.Nodup):(l.map f).Nodup:=by
 induction l with
 | nil=>simp
 | cons x l ih=>
  rw[dD6]at h;rw[dv6,dD6];refine⟨fun hm=>?_,ih h.2⟩;obtain⟨y,hy,e⟩:=dt7.1 hm;exact h.1 (hf _ _ e ▸ hy)
section
variable {p:Pg} {i x y:Nat}
theorem aJ9(hr:E8 p){it:It}(hit:it∈(b9 p).l)(h4:it.s.kind=4):((y5 p).callOut it.s).Nodup:=by
 obtain⟨c,hc⟩:=ad1 (hr.fits it hit h4);have e:(y5 p).s.pr it.s.proc=(c:Int):=hc.pr;unfold Bk.callOut;rw[e];split
 ·exact(ae0 hr.may hc.lt).sublist List.filter_sublist
 ·exact ae0 hr.may hc.lt
theorem bN5(hr:E8 p)(hw:D1 p≤1000000)(hi:i<p.procs.length)(pt:at7 p i x y):((y5 p).vert0 (i:Int)).Nodup:=by
 unfold Bk.vert0;generalize((y5 p).s.fn (i:Int)).name=q;have hs:(y5 p).s=b9 p:=rfl;rw[hs];have hid:∀it∈(b9 p).of i,1≤it.s.id∧(b9 p).it it.s.id=it:=fun it hit=>⟨(cb4 hr.may (bB0 pt hit)).2.2,(cb4 hr.may (bB0 pt hit)).2.1⟩;have hmem:∀it:It,∀v:Vx,v∈([⟨q,2,it.s.id,e0⟩]++if it.s.kind=4 then(((y5 p).slotsIn ((b9 p).pr it.s.proc)).map fun n=>(⟨q,5,it.s.id,n⟩:Vx))++((y5 p).callOut it.s).map fun n=>(⟨q,6,it.s.id,n⟩:Vx)else[])→v.id=it.s.id:=by
  intro it v hv;simp only[ds4,dt8,List.mem_ite_nil_right,dt7]at hv;rcases hv with rfl|⟨_,⟨n,_,rfl⟩|⟨n,_,rfl⟩⟩<;>rfl
 rw[dw0,dw0,dw0];refine⟨⟨⟨by simp,ag2 (fun a b h=>by simpa using h) (at0 hr hw hi),?_⟩,ag2 (fun a b h=>by simpa using h) (ae0 hr.may hi),?_⟩,?_,?_⟩
 ·rintro a ha b hb rfl;simp only[dt8,dt7]at ha hb;obtain⟨n,_,e⟩:=hb;rw[ha]at e;simp at e
 ·rintro a ha b hb rfl;simp only[ds4,dt8,dt7]at ha hb;obtain⟨n,_,e⟩:=hb;rcases ha with ha|⟨m,_,ha⟩
  ·rw[ha]at e;simp at e
  ·rw[←ha]at e;simp at e
 ·refine aq0 (cy2 hr.may pt) (fun it hit=>?_) fun a ha b hb v hva hvb=>?_
  ·rw[dw0];refine⟨by simp,?_,?_⟩
   ·split
    ·rename_i h4;obtain⟨c,hc⟩:=ad1 (hr.fits it (bB0 pt hit) h4);rw[dw0];refine⟨ag2 (fun a b h=>by simpa using h) ?_,ag2 (fun a b h=>by simpa using h) (aJ9 hr (bB0 pt hit) h4),?_⟩
     ·rw[hc.pr];exact at0 hr hw hc.lt
     ·rintro a ha b hb rfl;simp only[dt7]at ha hb;obtain⟨n,_,e⟩:=ha;obtain⟨m,_,e2⟩:=hb;rw[←e]at e2;simp at e2
    ·simp
   ·rintro a ha b hb rfl;simp only[dt8,List.mem_ite_nil_right,ds4,dt7]at ha hb;subst ha;obtain⟨_,⟨n,_,e⟩|⟨n,_,e⟩⟩:=hb<;>simp at e
  ·have h1:=hmem a v hva;have h2:=hmem b v hvb;rw[←(hid a ha).2,←(hid b hb).2,←h1,←h2]
 ·rintro a ha b hb rfl;obtain⟨it,hit,hv⟩:=dw1.1 hb;have h1:=hmem it a hv;have h2:=(hid it hit).1;simp only[ds4,dt8,dt7]at ha;rcases ha with(ha|⟨n,_,ha⟩)|⟨n,_,ha⟩
  ·rw[ha]at h1;simp only at h1;omega
  ·rw[←ha]at h1;simp only at h1;omega
  ·rw[←ha]at h1;simp only at h1;omega
end
def cO0(a b:Vx):Bool:=if a.proc≠b.proc then ltS a.proc b.proc else if a.kind≠b.kind then decide (a.kind<b.kind)else if a.id≠b.id then decide (a.id<b.id)else ltS a.slot b.slot
theorem cm0{b:Bk}{i:Int}{e:Eg}:e∈b.edges i↔e∈b.edge0 i:=by
 unfold Bk.edges bn0;rw[aG5,(G5 cH1 _).mem_iff]
section
variable {p:Pg} {i:Nat}
def Mid(p:Pg)(a:Int):Prop:=∃j:Nat,a=(j:Int)+1∧j<(b9 p).l.length
theorem aD5(hr:E8 p)(hw:D1 p≤1000000)(hi:i<p.procs.length){f:Fw}(hf:f∈(y5 p).flows (i:Int)):(f.src=0∨Mid p f.src)∧(f.dst = -1∨Mid p f.dst):=by
 obtain⟨x,pt⟩:=O8 hr.may hw i hi;have hok:=V0 pt;have hn:=hok.n;have hf:f∈(y5 p).flow0 (i:Int):=(G5 _ _).mem_iff.1 hf;rw[aV5]at hf;obtain⟨n,hf⟩:=hf;rw[ac3]at hf;obtain⟨a,c,ha,hc,ht,_,rfl⟩:=hf;have hal:=af9 _ _ _ a ha;have ha:=(dv2.1 ha).2;rw[dt6]at ha ht;unfold Bk.gives at ha;unfold Bk.takes at ht;simp only[T9 hi]at ha ht hal hc ⊢;have hmid:∀k:Nat,k≠0→(k:Int)<(E2 (b9 p) i).n-1→Mid p ((E2 (b9 p) i).place (k:Int)):=fun k h0 hk=>by
  obtain⟨q,_,h2,h3,_⟩:=av4 hok h0 hk;exact⟨q,h3,h2⟩
 constructor
 ·by_cases h0:(a:Int)=0
  ·left;rw[hok.toWyOk.place,if_pos h0]
  ·right;rw[if_neg h0]at ha;split at ha
   ·simp at ha
   ·rename_i hc';have:¬(a:Int)=(E2 (b9 p) i).n-1:=fun h=>hc' (.inl h);exact hmid a (by omega) (by omega)
 ·by_cases h0:(c:Int)=(E2 (b9 p) i).n-1
  ·left;rw[hok.toWyOk.place,if_neg (by omega),if_pos h0]
  ·right;rw[if_neg h0]at ht;split at ht
   ·simp at ht
   ·rename_i hc';have:¬(c:Int)=0:=fun h=>hc' (.inl h);exact hmid c (by omega) (by omega)
theorem bx3(hr:E8 p)(hw:D1 p≤1000000)(hi:i<p.procs.length):∃M:Nat,(E2 (b9 p) i).n=(M:Int)∧M≤202:=by
 obtain⟨x,pt⟩:=O8 hr.may hw i hi;have hn:=(V0 pt).n;have hlen:=pt.ok.len;have:=G9 hr.may;exact⟨(E2 (b9 p) i).n.toNat,by omega,by omega⟩
theorem bt4(hr:E8 p)(hw:D1 p≤1000000)(hi:i<p.procs.length):((y5 p).flows (i:Int)).length≤5000000:=by
 obtain⟨M,hM,hM2⟩:=bx3 hr hw hi;have e:((y5 p).flows (i:Int)).length=((y5 p).flow0 (i:Int)).length:=(G5 bp9 _).length_eq;rw[e];unfold Bk.flow0;rw[T9 hi,hM,dt5];refine dr7 (S1 _ 20200 _ fun a ha=>?_) ?_
 ·have ha:=dv0.1 ha;have hg:=(aM0 hr hw hi (k:=a) (by rw[hM];exact Int.ofNat_lt.2 ha)).2;refine dr7 (S1 _ 202 _ fun n hn=>?_) ?_
  ·rw[dr9];refine dr7 (dt9 _ _) ?_;rw[dw7];exact hM2
  ·omega
 ·rw[dw7];omega
theorem aN0(hr:E8 p)(hw:D1 p≤1000000){q:A7}{pl:Int}{n:A7}(hpl:pl = -1∨Mid p pl):((y5 p).takers q pl n).length≤9:=by
 unfold Bk.takers;split
 ·simp
 ·rename_i h1;obtain⟨j,rfl,hj⟩:=hpl.resolve_left h1;have hs:(y5 p).s=b9 p:=rfl;have hite:(b9 p).it ((j:Int)+1)=(b9 p).l[j]:=by
   unfold Sh.it;rw[show((j:Int)+1-1).toNat=j by omega,List.getD,dq7 hj];rfl
  split
  ·simp
  ·rename_i h4;rw[hs,hite]at h4 ⊢;have h4:((b9 p).l[j]).s.kind=4:=by simpa using h4
   obtain⟨c,hc⟩:=ad1 (hr.fits _ (dr5 hj) h4);have h8:=O4 hr.may hc.lt;have hl:=hc.len;rw[dr1,dr9];have h2:((((b9 p).l[j]).s.args.zip ((y5 p).callee ((b9 p).l[j]).s).params).filter fun x=>(U9 x.1).contains n).length≤8:=by
    refine dr7 (dt9 _ _) ?_;rw[List.length_zip];omega
   split<;>simp only[du0,dx8]<;>omega
theorem aZ2(hr:E8 p)(hw:D1 p≤1000000)(hi:i<p.procs.length):((E2 (b9 p) i).decides).length≤41000:=by
 obtain⟨M,hM,hM2⟩:=bx3 hr hw hi;rw[bh0 hM];refine dr7 (S1 _ 202 _ fun a ha=>?_) ?_
 ·rw[dr9];refine dr7 (dt9 _ _) ?_;rw[dw7];exact hM2
 ·rw[dw7];omega
theorem aY1(hr:E8 p)(hw:D1 p≤1000000)(hi:i<p.procs.length):((y5 p).verts (i:Int)).length≤30000:=by
 obtain⟨x,pt⟩:=O8 hr.may hw i hi;have h200:=G9 hr.may;have e:((y5 p).verts (i:Int)).length=((y5 p).vert0 (i:Int)).length:=(G5 cE0 _).length_eq;have h1:=aj2 hr hw hi;have h2:=am0 hr hi;have h3:(((b9 p).of i).flatMap (T8 p p.procs[i].name)).length≤((b9 p).of i).length*100:=S1 _ 100 _ fun it hit=>bd2 hr hw _ (cy1 pt hit);have h4:((b9 p).of i).length≤200:=by
  rw[pt.ok.of_,dy7,ds3];omega
 have hF:(y5 p).vert0 (i:Int)=([(⟨p.procs[i].name,1,0,e0⟩:Vx)]++((y5 p).slotsIn (i:Int)).map fun n=>(⟨p.procs[i].name,3,0,n⟩:Vx))++(((y5 p).slotsOut (i:Int)).map fun n=>(⟨p.procs[i].name,4,0,n⟩:Vx))++((b9 p).of i).flatMap (T8 p p.procs[i].name):=by
  unfold Bk.vert0;rw[Z8 hi];rfl
 rw[e,hF];simp only[dr1,du0,dr9];omega
end
theorem cJ2{w w1 w2:World}(hw1:w.heap.size<w1.heap.size){α:Type}[A3 α][A6 α]{T:TypeId}{u:Value}{l:List α}(ho:B0 (i4 w1) w2 T u l):R (B7 w2 (nP w.heap.size (.slice none 0 0))) u l:=
 ho.flatRN fun b hb=>D3 fun h=>by
  have:=D0 (ho.free hb);rcases h with h|h|h|h
  ·omega
  ·exact absurd h C6
  ·exact absurd h C6
  ·exact h.elim
theorem aS0(q:A7)(v:Vx):(G2 q v).length≤1:=by
 unfold G2;split
 ·simp
 ·split<;>simp
theorem da3(w:World)(y:Vx):∃wz,(Instr.alloc 36 true (.tuple #[])).run prog w = .ok (.pointer (some ⟨w.heap.size,0,none⟩)) wz ∧
  (Instr.storeAt 36 (.pointer (some ⟨w.heap.size,0,none⟩)) (.agg (A6.cells y).toArray)).run prog wz = .ok () (w.alloc (.cells (A6.cells y).toArray 36)):=by
 have h:=aJ7 (P:=prog) (w:=w) (T:=36) bx1 rfl (cs:=(A6.cells y).toArray) (by rw[W5];rfl) (fun u hu=>am8 y u (by simpa using hu));exact⟨_,h.1,h.2⟩
theorem do0{w:World}{c:Nat}{y:Vx}(hc:w.heap[c]?=some (.cells (A6.cells y).toArray 36 (0,0)))(z:Vx):∃w',(Instr.storeAt 36 (.pointer (some ⟨c,0,none⟩)) (.agg (A6.cells z).toArray)).run prog w = .ok () w'∧w'.heap[c]?=some (.cells (A6.cells z).toArray 36 (0,0))∧t8 (fun b=>b=c) w w':=
 Z7 (P:=prog) (T:=36) hc bx1 (by rw[W5];rfl) (by rw[W5];rfl) (fun u hu=>am8 z u (by simpa using hu))
theorem dl5{w:World}{c:Nat}{y:Vx}(hc:w.heap[c]?=some (.cells (A6.cells y).toArray 36 (0,0))):(Instr.loadAt 36 (.pointer (some ⟨c,0,none⟩))).run prog w = .ok (.agg (A6.cells y).toArray) w:=
 S9 hc aF4 aF7 aB2 (by rw[W5];rfl)
theorem cf4(a:Addr)(p:Pg)(i:Nat)(w:World)(ha:At (i4 w) a (y5 p))(hr:E8 p)(hw:D1 p≤1000000)(hi:i<p.procs.length):
  p7 prog 40 #[.pointer (some a),.int .i64 i] w fun u w'=>(B0 (i4 w) w' 60 u ((y5 p).edges (i:Int))∧o7 w w'):=by
 refine p8 [.pointer (some a),.int .i64 i] func40 rfl ?_;obtain⟨x,pt⟩:=O8 hr.may hw i hi;have hwy:=V0 pt;obtain⟨sh,vw,vd,_,vi,vo,has,hvw,hvd,_,hvi,hvo,ldb,sdb⟩:=ha.book rfl;obtain⟨_,_,_,_,_,_,hpg,_,_⟩:=has.sh;rw[J0]at hpg;obtain⟨vg,vp,hvg,hvp,ldp,sdp⟩:=hpg.pg;obtain⟨aw,hcw,haw⟩:=ay1 (hv:=hvw) (k:=i) (p:=⟨E2 (b9 p) i⟩) (by show((J2 p).map fun w=>(⟨w⟩:Ptr Wy))[i]?=_;rw[du5,W6 hi];rfl);simp only at haw;have hinw:=hvw.inS (k:=i) (by show i<((J2 p).map fun w=>(⟨w⟩:Ptr Wy)).length;unfold J2;simpa using hi);have lb:=ldb w (d7 _);have lp:=ldp w (d7 _);have hF:(y5 p).edge0 (i:Int)=(E2 (b9 p) i).decides.map (af4 p.procs[i].name)++((y5 p).verts (i:Int)).flatMap (G2 p.procs[i].name)++((y5 p).flows (i:Int)).flatMap fun f=>((y5 p).takers p.procs[i].name f.dst f.var).map fun v=>(⟨(y5 p).giver p.procs[i].name f.src f.var,v,2⟩:Eg):=by
  unfold Bk.edge0;rw[Z8 hi,T9 hi]
 have hn1:=aZ2 hr hw hi;have hn2:=aY1 hr hw hi;have hn3:=bt4 hr hw hi;have hfp:∀f∈(y5 p).flows (i:Int),(f.src=0∨Mid p f.src)∧(f.dst = -1∨Mid p f.dst):=fun f hf=>aD5 hr hw hi hf;have hin:=hvp.inS hi;obtain⟨sv,hsv,hld⟩:=E4 (P:=prog) (t:=51) hvp (d7 _) (dq7 hi) ae2 ae5 ac8 I4;rw[I4]at hld;obtain⟨cs,rfl,c1,c2,c3,c4,rfl,_⟩:=hsv;generalize p.procs[i].name=q at hF hld;have hbp:=bE7 a (i:Int) q c1 c2 c3 c4;have hbx:(Instr.box 116 (.agg (G7 a i q c1 c2 c3 c4 (.slice none 0 0) (.slice none 0 0)))).run prog w = .ok (.pointer (some ⟨w.heap.size,0,none⟩)) (w.alloc (.cells (G7 a i q c1 c2 c3 c4 (.slice none 0 0) (.slice none 0 0)) 116)):=rfl;have hse:Value.string {data:=#[]}=o9 e0:=rfl;simp only[i5,n8,z6,simprocAttr,lb,lp,hin,hld,hbp,hbx,hse];have hxa:=o7.alloc w (.cells (G7 a i q c1 c2 c3 c4 (.slice none 0 0) (.slice none 0 0)) 116);have hsz1:w.heap.size<(w.alloc (.cells (G7 a i q c1 c2 c3 c4 (.slice none 0 0) (.slice none 0 0)) 116)).heap.size:=by simp
 have hb1:=dv4 w (.cells (G7 a i q c1 c2 c3 c4 (.slice none 0 0) (.slice none 0 0)) 116);generalize hw1:w.alloc (.cells (G7 a i q c1 c2 c3 c4 (.slice none 0 0) (.slice none 0 0)) 116)=w1 at hxa hsz1 hb1;refine B2 (H4 w.heap.size _ _ q 1 0 e0 w1 hb1 rfl) (fun w2 hx2=>?_);obtain⟨de,wz,w4,hal4,hst4,hx4,hat4⟩:=ce8 (w:=w2) (nP w.heap.size (.slice none 0 0)) (SV.ofN (i4 w2) ⟨q,1,0,e0⟩) fun b hb=>by
  have:=hx2.size;rcases hb with h|h|h|h
  ·omega
  ·exact absurd h C6
  ·exact absurd h C6
  ·exact h.elim
 have hx14:=hx2.trans hx4;have hx04:=hxa.trans hx14;have lb4:=ldb w4 (b7 hx04);have hlw:=G1 (P:=prog) (t:=126) hcw (b7 hx04) az2;simp only[i5,n8,z6,simprocAttr,hal4,hst4,lb4,hinw,hlw];refine z7 (bD6 aw _ p i x _ w4 (haw.mono (b7 hx04)) hr hw hi hwy) ?_;rintro ud w5 ⟨hod,hx5⟩;have hx05:=hx04.trans hx5;have hud:=cJ2 (dw9 hsz1 hx14.size) hod;have hat5:=hat4.mono (G6 (N':=nP w.heap.size (.slice none 0 0)) hx5 (fun _ h=>h.elim) fun b h=>.inl h);have hx15:=hx14.trans hx5;rw[←hw1]at hx15;have s5:=(PV.new a i q c1 c2 c3 c4 hx15).2;have hb0:=cc5 hx05;generalize hgb:w.heap.size=gb at s5 hud hat5 hb0;generalize hH0:B7 w5 (nP gb (.slice none 0 0))=H0 at s5 hud hat5 hb0;obtain⟨ldE,_⟩:=I2.vx_v (SV.ofN (i4 w2) (⟨q,1,0,Go.Proofs.YtcbnbgpphippoaaGreat.e0⟩:Vx)) hat5;generalize(E2 (b9 p) i).decides=D at hF hn1 hud;have hSd:=hud.isS;have hnd:=hud.vlen;clear hin hld;simp only[i5,n8,simprocAttr,hSd,hnd];refine n9 [0,1,5,6,41,42] (σ:=Nat×Value) (fun t f w'=>f 43 = .int .i64 t.1∧t.1≤D.length∧PE H0 w w' gb a i q c1 c2 c3 c4 t.2 ((D.take t.1).map (af4 q))) (fun t=>D.length-t.1) (0,.slice none 0 0) ?_ ?_
 ·simp only[p6,simprocAttr];exact⟨by trivial,dr8 _,by simpa using s5⟩
 clear s5;rintro⟨k,v⟩ f w5 hk ⟨h43,hkl,s5⟩;simp only at h43 hkl s5;simp only[dq9,p6,simprocAttr]at hk;obtain⟨e0',e1,e5,e6,e41,e42,_⟩:=hk;simp only[i5,n8,simprocAttr,h43,e42];refine m8 (fun hc=>?_) (fun hc=>?_)
 ·have hlt:k<D.length:=by simpa using hc
  have hin:=hud.inS hlt;have hld:=cw7 hud s5.hb (dq7 hlt);have htk:=aE3 (af4 q) D hlt;have hcl:((D.take k).map (af4 q)).length≤1000000000:=by rw[dr9,ds3];omega
  generalize D[k]=d at hld htk;obtain⟨c8,wz6,w6,hal6,hst6,hx6,hc8,hc8n⟩:=cD7 (w:=w5) d.1 d.2;have s6:=s5.more hx6;have lE6:=ldE w6 s6.hb;obtain⟨wz7,hal7,hst7⟩:=da3 w6 ⟨q,1,0,Go.Proofs.YtcbnbgpphippoaaGreat.e0⟩;have hx7:=o7.alloc w6 (.cells (A6.cells (⟨q,1,0,Go.Proofs.YtcbnbgpphippoaaGreat.e0⟩:Vx)).toArray 36);have hc9:=dv4 w6 (.cells (A6.cells (⟨q,1,0,Go.Proofs.YtcbnbgpphippoaaGreat.e0⟩:Vx)).toArray 36);generalize w6.alloc (.cells (A6.cells (⟨q,1,0,Go.Proofs.YtcbnbgpphippoaaGreat.e0⟩:Vx)).toArray 36)=w7 at hst7 hx7 hc9;obtain⟨l8,_⟩:=am2 hc8 hx7 id;simp only[cE3,n8,z6,simprocAttr,h43,e41,e6,hin,hld,hal6,hst6,lE6,hal7,hst7,l8];refine bI1 [0,1,5,6,8,9,41,42,43] (fun f' w'=>o7 w6 w'∧w'.heap[w6.heap.size]?=some (.cells (A6.cells (af4 q d).src).toArray 36 (0,0))) ?_ ?_
  ·rcases dq8 (decide (d.1=0))with h0|h0
   ·simp only[i5,n8,simprocAttr,h0];refine⟨hx7,?_⟩;unfold af4;rw[if_pos (dr0 h0)];exact hc9
   ·simp only[i5,n8,z6,simprocAttr,h0,e5,l8];refine B2 (H4 gb _ _ q 2 d.1 Go.Proofs.YtcbnbgpphippoaaGreat.e0 w7 (s6.more hx7).cb rfl) (fun w8 hx8=>?_);obtain⟨w9,q1,q2,q3⟩:=do0 (c:=w6.heap.size) ((hx8.block _ (dr3.1 hc9).1 id).trans hc9) ⟨q,2,d.1,Go.Proofs.YtcbnbgpphippoaaGreat.e0⟩;simp only[i5,simprocAttr,q1];refine⟨t8.ext_of (hx7.trans hx8) q3 fun b hb=>by rw[hb];exact ds5 _,?_⟩;unfold af4;rw[if_neg (dr2 h0)];exact q2
  rintro f8 w8 hk ⟨hx8,hc9'⟩;simp only[dq9,p6,simprocAttr]at hk;obtain⟨g0,g1,g5,g6,g8,g9,g41,g42,g43,_⟩:=hk;have s8:=(s6.more hx8).more (o7.drew w8);have t1:∀K f d' w0',I1 prog (fun w'=>o7 w8.drew w') (Instr.loadAt 36 (.pointer (some ⟨w6.heap.size,0,none⟩))) K f d' w0'=K (C4 f d' (.agg (A6.cells (af4 q d).src).toArray)) w0':=fun K f d' w0'=>D5 (w0:=w8.drew) (t8.refl _) fun w' h=>dl5 ((((o7.drew w8).trans h).block _ (dr3.1 hc9').1 id).trans hc9');have t2:∀K f d' w0',I1 prog (fun w'=>o7 w8.drew w') (Instr.loadAt 3 (.pointer (some ⟨c8,1,none⟩))) K f d' w0'=K (C4 f d' (.int .i64 d.2)) w0':=fun K f d' w0'=>D5 (w0:=w8.drew) (t8.refl _) fun w' h=>(am2 hc8 (hx8.trans ((o7.drew w8).trans h)) id).2;simp only[i5,simprocAttr];refine C0 (fun w'=>o7 w8.drew w') 6 (A9 [0,1,2,3,4,5]) ?_;simp only[D2,A9,i5,n8,z6,simprocAttr,g5,e5,g8,g9,t1,t2];refine B2 (H4 gb _ _ q 2 d.2 Go.Proofs.YtcbnbgpphippoaaGreat.e0 w8.drew s8.cb rfl) (fun w9 hx9=>⟨hx9,?_⟩);simp only[D2,i5,simprocAttr];refine z7 (ag4 H0 gb a i q c1 c2 c3 c4 v _ (af4 q d).src ⟨q,2,d.2,Go.Proofs.YtcbnbgpphippoaaGreat.e0⟩ 1 w w9 (s8.more hx9) hcl) ?_;rintro _ w10 ⟨v10,s10⟩;simp only[i5,n8,simprocAttr,g43,h43];refine⟨(k+1,v10),by simp only[];omega,by simp only[];rw[A8 k (by omega)],by simp only[];omega,?_⟩;simp only[];rw[htk];exact s10
 have hge:k=D.length:=by simp at hc;omega
 subst hge;rw[ds2]at s5;have hb5:B5 (i4 w) (i4 w5):=p9 hb0 s5.hb;clear hcw hlw lb lp lb4 hinw;simp only[i5,simprocAttr,e0',e1];refine z7 (aO0 a p i w5 (ha.mono hb5) hr hw hi) ?_;rintro uv w6 ⟨hov,hx6⟩;have s6:=s5.more hx6;have huv:=s5.freshN hov;have b6:=s6.base;have s6:=s6.rebase (d7 _);generalize hK2:B7 w6 (nP gb v)=K2 at s6 huv b6;generalize(y5 p).verts (i:Int)=V at hF hn2 huv;have hL1l:(D.map (af4 q)).length≤41000:=by rw[dr9];exact hn1
 generalize D.map (af4 q)=L1 at s6 hF hL1l;have hSv:=huv.isS;have hnv:=huv.vlen;clear s5;simp only[i5,n8,simprocAttr,hSv,hnv];refine n9 [0,1,5,6,65,66] (σ:=Nat×Value) (fun t f w'=>f 67 = .int .i64 t.1∧t.1≤V.length∧PE K2 w w' gb a i q c1 c2 c3 c4 t.2 (L1++(V.take t.1).flatMap (G2 q))) (fun t=>V.length-t.1) (0,v) ?_ ?_
 ·simp only[p6,simprocAttr];exact⟨by trivial,dr8 _,by simpa using s6⟩
 clear s6;rintro⟨m,v2⟩ f2 w7 hk ⟨h67,hml,s7⟩;simp only at h67 hml s7;simp only[dq9,p6,simprocAttr]at hk;obtain⟨a0,a1,a5,a6,a65,a66,_⟩:=hk;rw[e0']at a0;rw[e1]at a1;rw[e5]at a5;rw[e6]at a6;have hcl7:(L1++(V.take m).flatMap (G2 q)).length≤80000:=by
  have h1:=S1 (G2 q) 1 (V.take m) fun z _=>aS0 q z;rw[ds3]at h1;rw[dr1];have h2:min m V.length≤30000:=by omega
  omega
 simp only[i5,n8,simprocAttr,h67,a66];refine m8 (fun hc=>?_) (fun hc=>?_)
 ·have hlt:m<V.length:=by simpa using hc
  have hin:=huv.inS hlt;obtain⟨sv,hsv,hld⟩:=E4 (P:=prog) (t:=36) huv (s7.hb) (dq7 hlt) aF4 aF7 aB2 W5;rw[W5]at hld;have htk:=I9 (G2 q) V hlt;generalize V[m]=vx at hsv htk;obtain rfl:=hsv.N;obtain⟨d8,wz8,w8,hal8,hst8,hx8,hat8⟩:=bf1 (hsv.mono s7.hb) (d7 _);obtain⟨ldv,sdv⟩:=hat8.vx;obtain⟨sv,hsv',ldw,sdw⟩:=hat8.vx_v;obtain rfl:=hsv'.N;have l8:=ldv w8 (d7 _);have lw8:=ldw w8 (d7 _);have s8:=s7.more hx8;have lE8:=ldE w8 (p9 b6 s8.hb);have s8d:=s8.more (o7.drew w8);have t1:=sdw (fun w'=>o7 w8.drew w') w8.drew (t8.refl _) fun w' h=>b7 ((o7.drew w8).trans h);have t2:=sdv (fun w'=>o7 w8.drew w') w8.drew (t8.refl _) fun w' h=>b7 ((o7.drew w8).trans h);generalize hxs:L1++(V.take m).flatMap (G2 q)=xs at s7 s8 s8d hcl7;have hxs':L1++(V.take (m+1)).flatMap (G2 q)=xs++G2 q vx:=by rw[htk,←hxs,dt4]
  rcases dq8 (decide (vx.kind=3))with h3|h3
  ·have hs:G2 q vx=[⟨⟨q,1,0,Go.Proofs.YtcbnbgpphippoaaGreat.e0⟩,vx,1⟩]:=by unfold G2;rw[if_pos (.inl (dr0 h3))]
   simp only[i5,n8,z6,simprocAttr,h67,a65,hin,hld,hal8,hst8,l8,h3,a5,a6,lE8,lw8];refine z7 (ag4 K2 gb a i q c1 c2 c3 c4 v2 _ ⟨q,1,0,Go.Proofs.YtcbnbgpphippoaaGreat.e0⟩ vx 1 w w8 s8 (by omega)) ?_;rintro _ w9 ⟨v9,s9⟩;simp only[i5,n8,simprocAttr,h67];refine⟨(m+1,v9),by simp only[];omega,by simp only[];rw[A8 m (by omega)],by simp only[];omega,?_⟩;simp only[];rw[hxs',hs];exact s9
  rcases dq8 (decide (vx.kind=4))with h4|h4
  ·have hs:G2 q vx=[⟨⟨q,1,0,Go.Proofs.YtcbnbgpphippoaaGreat.e0⟩,vx,1⟩]:=by unfold G2;rw[if_pos (.inr (dr0 h4))]
   simp only[i5,n8,z6,simprocAttr,h67,a65,hin,hld,hal8,hst8,l8,h3,h4,a5,a6,lE8,lw8];refine z7 (ag4 K2 gb a i q c1 c2 c3 c4 v2 _ ⟨q,1,0,Go.Proofs.YtcbnbgpphippoaaGreat.e0⟩ vx 1 w w8 s8 (by omega)) ?_;rintro _ w9 ⟨v9,s9⟩;simp only[i5,n8,simprocAttr,h67];refine⟨(m+1,v9),by simp only[];omega,by simp only[];rw[A8 m (by omega)],by simp only[];omega,?_⟩;simp only[];rw[hxs',hs];exact s9
  have hn34:¬(vx.kind=3∨vx.kind=4):=fun h=>h.elim (dr2 h3) (dr2 h4);rcases dq8 (decide (vx.kind=5))with h5|h5
  ·have hs:G2 q vx=[⟨⟨q,2,vx.id,Go.Proofs.YtcbnbgpphippoaaGreat.e0⟩,vx,1⟩]:=by unfold G2;rw[if_neg hn34,if_pos (.inl (dr0 h5))]
   simp only[i5,n8,z6,simprocAttr,h67,a65,hin,hld,hal8,hst8,l8,h3,h4,h5];refine C0 (fun w'=>o7 w8.drew w') 6 (A9 [0,1,2,3,5,4]) ?_;simp only[D2,A9,i5,n8,simprocAttr,a5,t1,t2];refine B2 (H4 gb _ _ q 2 vx.id Go.Proofs.YtcbnbgpphippoaaGreat.e0 w8.drew s8d.cb rfl) (fun w9 hx9=>⟨hx9,?_⟩);simp only[D2,i5,simprocAttr];refine z7 (ag4 K2 gb a i q c1 c2 c3 c4 v2 _ ⟨q,2,vx.id,Go.Proofs.YtcbnbgpphippoaaGreat.e0⟩ vx 1 w w9 (s8d.more hx9) (by omega)) ?_;rintro _ w10 ⟨v10,s10⟩;simp only[i5,n8,simprocAttr,h67];refine⟨(m+1,v10),by simp only[];omega,by simp only[];rw[A8 m (by omega)],by simp only[];omega,?_⟩;simp only[];rw[hxs',hs];exact s10
  rcases dq8 (decide (vx.kind=6))with h6|h6
  ·have hs:G2 q vx=[⟨⟨q,2,vx.id,Go.Proofs.YtcbnbgpphippoaaGreat.e0⟩,vx,1⟩]:=by unfold G2;rw[if_neg hn34,if_pos (.inr (dr0 h6))]
   simp only[i5,n8,z6,simprocAttr,h67,a65,hin,hld,hal8,hst8,l8,h3,h4,h5,h6];refine C0 (fun w'=>o7 w8.drew w') 6 (A9 [0,1,2,3,5,4]) ?_;simp only[D2,A9,i5,n8,simprocAttr,a5,t1,t2];refine B2 (H4 gb _ _ q 2 vx.id Go.Proofs.YtcbnbgpphippoaaGreat.e0 w8.drew s8d.cb rfl) (fun w9 hx9=>⟨hx9,?_⟩);simp only[D2,i5,simprocAttr];refine z7 (ag4 K2 gb a i q c1 c2 c3 c4 v2 _ ⟨q,2,vx.id,Go.Proofs.YtcbnbgpphippoaaGreat.e0⟩ vx 1 w w9 (s8d.more hx9) (by omega)) ?_;rintro _ w10 ⟨v10,s10⟩;simp only[i5,n8,simprocAttr,h67];refine⟨(m+1,v10),by simp only[];omega,by simp only[];rw[A8 m (by omega)],by simp only[];omega,?_⟩;simp only[];rw[hxs',hs];exact s10
  have hs:G2 q vx=[]:=by
   unfold G2;rw[if_neg hn34,if_neg fun h=>h.elim (dr2 h5) (dr2 h6)]
  simp only[i5,n8,z6,simprocAttr,h67,a65,hin,hld,hal8,hst8,l8,h3,h4,h5,h6];refine⟨(m+1,v2),by simp only[];omega,by simp only[];rw[A8 m (by omega)],by simp only[];omega,?_⟩;simp only[];rw[hxs',hs,du2];exact s8
 have hge:m=V.length:=by simp at hc;omega
 subst hge;rw[ds2]at s7 hcl7;have hb7:B5 (i4 w) (i4 w7):=p9 hb0 (p9 b6 s7.hb);simp only[i5,simprocAttr,a0,a1];refine z7 (cf5 a p i w7 (ha.mono hb7) hr hw hi) ?_;rintro uf w8 ⟨hof,hx8⟩;have s8:=s7.more hx8;have huf:=s7.freshN hof;have b8:=p9 b6 s8.base;have s8:=s8.rebase (d7 _);generalize hK3:B7 w8 (nP gb v2)=K3 at s8 huf b8;generalize(y5 p).flows (i:Int)=Fl at hF hn3 hfp huf;generalize L1++V.flatMap (G2 q)=L2 at s8 hF hcl7;generalize hG:(fun f:Fw=>((y5 p).takers q f.dst f.var).map fun v=>(⟨(y5 p).giver q f.src f.var,v,2⟩:Eg))=G at hF;have hGe:∀f:Fw,G f=((y5 p).takers q f.dst f.var).map fun v=>(⟨(y5 p).giver q f.src f.var,v,2⟩:Eg):=fun f=>by rw[←hG]
 have hGl:∀f∈Fl,(G f).length≤9:=fun f hf=>by
  rw[hGe,dr9];exact aN0 hr hw (hfp f hf).2
 have hSf:=huf.isS;have hnf:=huf.vlen;clear s7 hG;simp only[i5,n8,simprocAttr,hSf,hnf];refine n9 [0,1,5,6,93,94] (σ:=Nat×Value) (fun t f w'=>f 95 = .int .i64 t.1∧t.1≤Fl.length∧PE K3 w w' gb a i q c1 c2 c3 c4 t.2 (L2++(Fl.take t.1).flatMap G)) (fun t=>Fl.length-t.1) (0,v2) ?_ ?_
 ·simp only[p6,simprocAttr];exact⟨by trivial,dr8 _,by simpa using s8⟩
 clear s8;rintro⟨k,v3⟩ f3 w9 hk ⟨h95,hkl,s9⟩;simp only at h95 hkl s9;simp only[dq9,p6,simprocAttr]at hk;obtain⟨b0,b1,b5,b6',b93,b94,_⟩:=hk;rw[a5]at b5;have hcl9:(L2++(Fl.take k).flatMap G).length≤50000000:=by
  have h1:=S1 G 9 (Fl.take k) fun z hz=>hGl z (dz5 hz);rw[ds3]at h1;rw[dr1];have h2:min k Fl.length≤5000000:=by omega
  omega
 have hb3:B5 (i4 w) K3:=p9 hb0 b8;simp only[i5,n8,simprocAttr,h95,b94];refine m8 (fun hc=>?_) (fun hc=>?_);rotate_left
 ·have hge:k=Fl.length:=by simp at hc;omega
  subst hge;rw[ds2]at s9 hcl9;have l9:(Instr.loadAt 32 (.pointer (some ⟨gb,8,none⟩))).run prog w9 = .ok v3 w9:=E9 (i:=8) (u:=v3) s9.cb rfl cP7;simp only[i5,n8,simprocAttr,b5,l9];refine z7 (bO2 s9.ox (by omega) (B3 _ _)) ?_;rintro u w10 ⟨ho10,hm10,_⟩;simp only[i5,simprocAttr];refine o6 results40 ?_;simp only[p6,simprocAttr];refine⟨?_,t8.ext_of s9.ext hm10 fun b hb=>(s9.dx b hb).1⟩;have e:(y5 p).edges (i:Int)=bn0 (L2++Fl.flatMap G):=by unfold Bk.edges;rw[hF]
  rw[e];exact ho10.downN (p9 hb3 s9.base)
 have hlt:k<Fl.length:=by simpa using hc
 have hin:=huf.inS hlt;obtain⟨sv,hsv,hld⟩:=E4 (P:=prog) (t:=97) huf (s9.hb) (dq7 hlt) cP8 cQ1 cB7 bN2;rw[bN2]at hld;have htk:=I9 G Fl hlt;obtain⟨hps,hpd⟩:=hfp _ (dr5 hlt);generalize Fl[k]=fl at hsv htk hps hpd;obtain⟨d13,wz10,w10,hal10,hst10,hx10,hat10⟩:=cL5 (hsv.mono s9.hb) (d7 _);obtain⟨ldf,_⟩:=hat10.fw;have l10:=ldf w10 (d7 _);have s10:=s9.more hx10;simp only[i5,n8,z6,simprocAttr,h95,b93,hin,hld,hal10,hst10,l10,b5];refine B2 (cj9 gb _ _ a p q fl.src fl.var w10 s10.cb rfl rfl (ha.mono (p9 hb3 s10.hb)) hr hw hps) (fun w11 hx11=>?_);have s11:=s10.more hx11;have hGf:=hGe fl;generalize(y5 p).giver q fl.src fl.var=gv at hGf;obtain⟨d14,wz12,w12,hal12,hst12,hx12,hat12⟩:=ce8 (w:=w11) (nP gb v3) (SV.ofN (i4 w11) gv) fun b hb=>s11.lt hb;have s12:=s11.more hx12;have l12:=ldf w12 (b7 (hx11.trans hx12));simp only[i5,n8,simprocAttr,hal12,hst12,l12,b5];refine z7 (bV5 gb _ _ a p q fl.dst fl.var w12 s12.cb rfl rfl (ha.mono (p9 hb3 s12.hb)) hr hw hpd) ?_;rintro ut w13 ⟨hot,hx13⟩;have s13:=s12.more hx13;have hut:=s12.freshN hot;have hat13:=hat12.mono (G6 (N':=nP gb v3) hx13 (fun _ h=>h.elim) fun b h=>.inl h);have b13:=s13.base;have s13:=s13.rebase (d7 _);generalize hK4:B7 w13 (nP gb v3)=K4 at s13 hut hat13 b13;obtain⟨ldg,_⟩:=I2.vx_v (SV.ofN (i4 w11) gv) hat13;have htf:=aN0 hr hw (q:=q) (n:=fl.var) hpd;generalize(y5 p).takers q fl.dst fl.var=Tk at hGf hut htf;generalize hxs:L2++(Fl.take k).flatMap G=xs at s13 hcl9;have hxs':L2++(Fl.take (k+1)).flatMap G=xs++Tk.map fun v=>(⟨gv,v,2⟩:Eg):=by rw[htk,hGf,←hxs,dt4]
 have hSt:=hut.isS;have hnt:=hut.vlen;clear s9 s10 s11 s12;simp only[i5,n8,simprocAttr,hSt,hnt];refine n9 [0,1,5,6,14,93,94,95,110,111] (σ:=Nat×Value) (fun t f w'=>f 112 = .int .i64 t.1∧t.1≤Tk.length∧PE K4 w w' gb a i q c1 c2 c3 c4 t.2 (xs++(Tk.take t.1).map fun v=>(⟨gv,v,2⟩:Eg))) (fun t=>Tk.length-t.1) (0,v3) ?_ ?_
 ·simp only[p6,simprocAttr];exact⟨by trivial,dr8 _,by simpa using s13⟩
 clear s13;rintro⟨j,v4⟩ f4 w14 hk ⟨h112,hjl,s14⟩;simp only at h112 hjl s14;simp only[dq9,p6,simprocAttr]at hk;obtain⟨j0,j1,j5,j6,j14,j93,j94,j95,j110,j111,_⟩:=hk;rw[b5]at j5;rw[h95]at j95;simp only[i5,n8,simprocAttr,h112,j111];refine m8 (fun hc2=>?_) (fun hc2=>?_);rotate_left
 ·have hge:j=Tk.length:=by simp at hc2;omega
  subst hge;rw[ds2]at s14;simp only[i5,n8,simprocAttr,j95];refine⟨(k+1,v4),by simp only[];omega,by simp only[];rw[A8 k (by omega)],by simp only[];omega,?_⟩;simp only[];rw[hxs'];exact s14.rebase (p9 b13 s14.base)
 have hlt2:j<Tk.length:=by simpa using hc2
 clear hin hld hsv;have hin:=hut.inS hlt2;obtain⟨sv,hsv,hld⟩:=E4 (P:=prog) (t:=36) hut (s14.hb) (dq7 hlt2) aF4 aF7 aB2 W5;rw[W5]at hld;have htk2:=aE3 (fun v=>(⟨gv,v,2⟩:Eg)) Tk hlt2;have hcl14:(xs++(Tk.take j).map fun v=>(⟨gv,v,2⟩:Eg)).length≤1000000000:=by
  rw[dr1,dr9,ds3];omega
 generalize Tk[j]=tv at hsv htk2;obtain rfl:=hsv.N;obtain⟨d16,wz15,w15,hal15,hst15,hx15,hat15⟩:=bf1 (hsv.mono s14.hb) (d7 _);obtain⟨sv,hsv',ldt,_⟩:=hat15.vx_v;obtain rfl:=hsv'.N;have s15:=s14.more hx15;have lg:=ldg w15 s15.hb;have lt:=ldt w15 (d7 _);simp only[i5,n8,z6,simprocAttr,h112,j110,hin,hld,hal15,hst15,j5,j14,lg,lt];refine z7 (ag4 K4 gb a i q c1 c2 c3 c4 v4 _ gv tv 2 w w15 s15 hcl14) ?_;rintro _ w16 ⟨v16,s16⟩;simp only[i5,n8,simprocAttr,h112];refine⟨(j+1,v16),by simp only[];omega,by simp only[];rw[A8 j (by omega)],by simp only[];omega,?_⟩;simp only[];rw[htk2,←dt4];exact s16
def cp4(p:Pg)(n:A7):Prop:=¬(ab0 p=true∧0≤S5 p.procs n)
def aL2(p:Pg)(n:A7)(k:Nat):Prop:=ab0 p=true∧S5 p.procs n=(k:Int)∧k<p.procs.length
theorem as9(x:Option Addr):B6 prog .eql 78 (.pointer x) (.pointer none)=some (.bool x.isNone):=bg2 rfl (by kernel_rfl)
theorem ca9{p:Pg}{n:A7}(h:0≤S5 p.procs n):∃k:Nat,S5 p.procs n=(k:Int)∧k<p.procs.length:=by
 obtain⟨k,e,x,hx,_⟩:=au7 _ p.procs 0 h;exact⟨k,by unfold S5;rw[e];simp,(dr4.1 hx).1⟩
theorem as2(v:Value)(p:Pg)(n:A7)(w:World)(hv:SV (i4 w) v p)(hw:D1 p≤1000000):
  p7 prog 38 #[v,o9 n] w fun u w'=>(∃bv iv,u = .tuple #[bv,iv]∧o7 w w'∧((cp4 p n∧bv = .pointer none)∨∃k,aL2 p n k∧iv = .int .i64 (k:Nat)∧∃ad,bv = .pointer (some ad)∧At (i4 w') ad (y5 p))):=by
 refine p8 [v,o9 n] func38 rfl ?_;obtain⟨c,w1,hbx,hx1,hatp⟩:=P7 hv (d7 _);obtain⟨sp,hsp,ldsp,_⟩:=hatp.pg_v;have l1:=ldsp w1 (d7 _);simp only[i5,n8,simprocAttr,hbx,l1];refine z7 (cF4 sp p w1 hsp hw) ?_;rintro u w2 ⟨hf,ht,hx2⟩;cases hR:ab0 p
 ·obtain rfl:=hf hR;simp only[i5,n8,simprocAttr,as9];refine af0 results38 ?_;simp only[p6,simprocAttr];exact⟨_,_,rfl,hx1.trans hx2,.inl ⟨fun h=>(by rw[hR]at h;cases h.1),by trivial⟩⟩
 obtain⟨ad,rfl,had⟩:=ht hR;obtain⟨sh,_,_,_,_,_,has,_,_,_,_,_,ldb,_⟩:=had.book rfl;have hlp:(b9 p).p.procs.length≤1000000000:=by
  rw[J0];have:=(M7 (U0 hR).may).2;omega
 have hz:(b9 p).pr n=S5 p.procs n:=by unfold Sh.pr;rw[J0]
 have lb2:=ldb w2 (d7 _);simp only[i5,n8,simprocAttr,as9,lb2];refine B2 (aq6 sh (b9 p) n w2 has hlp) (fun w3 hx3=>?_);have lb3:=ldb w3 (b7 hx3);rw[hz];rcases dq8 (decide (S5 p.procs n<0))with h0|h0
 ·simp only[i5,n8,simprocAttr,h0];refine af0 results38 ?_;simp only[p6,simprocAttr];exact⟨_,_,rfl,(hx1.trans hx2).trans hx3,.inl ⟨fun h=>(by have:=dr0 h0;have:=h.2;omega),by trivial⟩⟩
 ·obtain⟨k,hk,hkl⟩:=ca9 (p:=p) (n:=n) (by have:=dr2 h0;omega);simp only[i5,n8,simprocAttr,h0,lb3];refine B2 (aq6 sh (b9 p) n w3 (has.mono (b7 hx3)) hlp) (fun w4 hx4=>?_);rw[hz];simp only[i5,simprocAttr];refine af0 results38 ?_;simp only[p6,simprocAttr];exact⟨_,_,rfl,((hx1.trans hx2).trans hx3).trans hx4,.inr ⟨k,⟨hR,hk,hkl⟩,by rw[hk],ad,by trivial,had.mono (b7 (hx3.trans hx4))⟩⟩
theorem aH6{p:Pg}{n:A7}(h:cp4 p n):aC5 p n=none:=if_neg h
theorem ac0{p:Pg}{n:A7}{k:Nat}(h:aL2 p n k):aC5 p n=some (y5 p,(k:Int)):=by
 unfold aC5;rw[if_pos ⟨h.1,by rw[h.2.1];omega⟩,h.2.1]
theorem ay0(v:Value)(p:Pg)(n:A7)(w:World)(hv:SV (i4 w) v p)(hw:D1 p≤1000000):
  p7 prog 18 #[v,o9 n] w fun u w'=>(B0 (i4 w) w' 9 u (T5 p n)∧o7 w w'):=by
 refine p8 [v,o9 n] func18 rfl ?_;obtain⟨c,w1,hbx,hx1,hatp⟩:=P7 hv (d7 _);obtain⟨sp,hsp,ldsp,_⟩:=hatp.pg_v;have l1:=ldsp w1 (d7 _);simp only[i5,n8,simprocAttr,hbx,l1];refine z7 (as2 sp p n w1 hsp hw) ?_;rintro _ w2 ⟨bv,iv,rfl,hx2,⟨hno,rfl⟩|⟨k,hb,rfl,ad,rfl,had⟩⟩
 ·simp only[i5,n8,simprocAttr,as9];refine o6 results18 ?_;simp only[p6,simprocAttr];unfold T5;rw[aH6 hno];exact⟨B0.nil _ _ _,hx1.trans hx2⟩
 ·simp only[i5,n8,simprocAttr,as9];refine z7 (aG1 ad p k w2 had (U0 hb.1) hw hb.2.2) ?_;rintro _ w3 ⟨ui,uo,rfl,hoi,hoo,_,hx3⟩;simp only[i5,simprocAttr];refine o6 results18 ?_;simp only[p6,simprocAttr];unfold T5;rw[ac0 hb]
  first
   | exact⟨hoi.back (hx1.trans hx2),(hx1.trans hx2).trans hx3⟩
   | exact⟨hoo.back (hx1.trans hx2),(hx1.trans hx2).trans hx3⟩
theorem ax9(v:Value)(p:Pg)(n:A7)(w:World)(hv:SV (i4 w) v p)(hw:D1 p≤1000000):
  p7 prog 19 #[v,o9 n] w fun u w'=>(B0 (i4 w) w' 9 u (M4 p n)∧o7 w w'):=by
 refine p8 [v,o9 n] func19 rfl ?_;obtain⟨c,w1,hbx,hx1,hatp⟩:=P7 hv (d7 _);obtain⟨sp,hsp,ldsp,_⟩:=hatp.pg_v;have l1:=ldsp w1 (d7 _);simp only[i5,n8,simprocAttr,hbx,l1];refine z7 (as2 sp p n w1 hsp hw) ?_;rintro _ w2 ⟨bv,iv,rfl,hx2,⟨hno,rfl⟩|⟨k,hb,rfl,ad,rfl,had⟩⟩
 ·simp only[i5,n8,simprocAttr,as9];refine o6 results19 ?_;simp only[p6,simprocAttr];unfold M4;rw[aH6 hno];exact⟨B0.nil _ _ _,hx1.trans hx2⟩
 ·simp only[i5,n8,simprocAttr,as9];refine z7 (aG1 ad p k w2 had (U0 hb.1) hw hb.2.2) ?_;rintro _ w3 ⟨ui,uo,rfl,hoi,hoo,_,hx3⟩;simp only[i5,simprocAttr];refine o6 results19 ?_;simp only[p6,simprocAttr];unfold M4;rw[ac0 hb]
  first
   | exact⟨hoi.back (hx1.trans hx2),(hx1.trans hx2).trans hx3⟩
   | exact⟨hoo.back (hx1.trans hx2),(hx1.trans hx2).trans hx3⟩
theorem aA7(v:Value)(p:Pg)(n:A7)(w:World)(hv:SV (i4 w) v p)(hw:D1 p≤1000000):
  p7 prog 11 #[v,o9 n] w fun u w'=>(B0 (i4 w) w' 36 u (aF8 p n)∧o7 w w'):=by
 refine p8 [v,o9 n] func11 rfl ?_;obtain⟨c,w1,hbx,hx1,hatp⟩:=P7 hv (d7 _);obtain⟨sp,hsp,ldsp,_⟩:=hatp.pg_v;have l1:=ldsp w1 (d7 _);simp only[i5,n8,simprocAttr,hbx,l1];refine z7 (as2 sp p n w1 hsp hw) ?_;rintro _ w2 ⟨bv,iv,rfl,hx2,⟨hno,rfl⟩|⟨k,hb,rfl,ad,rfl,had⟩⟩
 ·simp only[i5,n8,simprocAttr,as9];refine o6 results11 ?_;simp only[p6,simprocAttr];unfold aF8;rw[aH6 hno];exact⟨B0.nil _ _ _,hx1.trans hx2⟩
 ·simp only[i5,n8,simprocAttr,as9];refine z7 (aO0 ad p k w2 had (U0 hb.1) hw hb.2.2) ?_;rintro u w3 ⟨ho,hx3⟩;simp only[i5,simprocAttr];refine o6 results11 ?_;simp only[p6,simprocAttr];unfold aF8;rw[ac0 hb];exact⟨ho.backN (hx1.trans hx2),(hx1.trans hx2).trans hx3⟩
theorem aQ5(v:Value)(p:Pg)(n:A7)(w:World)(hv:SV (i4 w) v p)(hw:D1 p≤1000000):
  p7 prog 13 #[v,o9 n] w fun u w'=>(B0 (i4 w) w' 60 u (ap2 p n)∧o7 w w'):=by
 refine p8 [v,o9 n] func13 rfl ?_;obtain⟨c,w1,hbx,hx1,hatp⟩:=P7 hv (d7 _);obtain⟨sp,hsp,ldsp,_⟩:=hatp.pg_v;have l1:=ldsp w1 (d7 _);simp only[i5,n8,simprocAttr,hbx,l1];refine z7 (as2 sp p n w1 hsp hw) ?_;rintro _ w2 ⟨bv,iv,rfl,hx2,⟨hno,rfl⟩|⟨k,hb,rfl,ad,rfl,had⟩⟩
 ·simp only[i5,n8,simprocAttr,as9];refine o6 results13 ?_;simp only[p6,simprocAttr];unfold ap2;rw[aH6 hno];exact⟨B0.nil _ _ _,hx1.trans hx2⟩
 ·simp only[i5,n8,simprocAttr,as9];refine z7 (cf4 ad p k w2 had (U0 hb.1) hw hb.2.2) ?_;rintro u w3 ⟨ho,hx3⟩;simp only[i5,simprocAttr];refine o6 results13 ?_;simp only[p6,simprocAttr];unfold ap2;rw[ac0 hb];exact⟨ho.backN (hx1.trans hx2),(hx1.trans hx2).trans hx3⟩
mutual
theorem cZ6:∀(t:St) (dd:Nat) (n m:Int) (d up:Int) (e:Bool) (k:Nat) (pr up' nx lp:Int),((G8 dd t.thn n).bind fun m=>G8 dd t.els m)=some m→d+dd=12→(bA3 t d up e).map (·.s)=(V4 t k pr up' nx lp).map (·.s)
 | .mk id kind labels name proc x has args thn els,dd,n,m,d,up,e,k,pr,up',nx,lp,h,hd=>by
  simp only[St.thn,St.els]at h;obtain⟨m1,h1,h2⟩:=dx0.1 h;rw[bA3,if_pos (by omega),P5];simp only[dv6,du1,St.thn,St.els];rw[bj2 thn dd n m1 (d+1) id false _ _ _ _ _ h1 (by omega),bj2 els dd m1 m (d+1) id true _ _ _ _ _ h2 (by omega)]
theorem bj2:∀(l:List St) (dd:Nat) (n m:Int) (d up:Int) (e:Bool) (k:Nat) (pr up' nx lp:Int),G8 dd l n=some m→d+dd=13→(G4 l d up e).map (·.s)=(C2 l k pr up' nx lp).map (·.s)
 | [],_,_,_,_,_,_,_,_,_,_,_,_,_=>by simp[G4,C2]
 | t::l,0,n,m,d,up,e,k,pr,up',nx,lp,h,hd=>by simp[G8]at h
 | t::l,dd+1,n,m,d,up,e,k,pr,up',nx,lp,h,hd=>by
  rw[ay5]at h;obtain⟨m1,h1,h2⟩:=dx0.1 h;split at h1
  ·cases h1
  ·rw[G4,C2];simp only[du1];rw[cZ6 t dd _ m1 d up e _ _ _ _ _ h1 (by omega),bj2 l (dd+1) m1 m d up e _ _ _ _ _ h2 hd]
end
theorem bS1:∀(l:List Pr) (s:Sh) (i:Nat) (n:Int),(l.foldlM (fun n f=>R3 f n) n).isSome=true→(F4 s i l).l.map (·.s)=s.l.map (·.s)++(l.flatMap fun q=>G4 q.body 1 0 false).map (·.s)
 | [],s,i,_,_=>by simp[F4]
 | f::l,s,i,n,hf=>by
  rw[List.foldlM_cons]at hf;obtain⟨a,hn⟩:=dw6.1 hf;obtain⟨m,hm,hm2⟩:=dx0.1 hn;unfold R3 at hm;split at hm
  ·cases hm
  ·rw[F4,bS1 l _ _ m (by rw[hm2];rfl),dA4,du1];simp only[E6,du1,dt4];rw[bj2 f.body 12 _ _ 1 0 false _ _ _ _ _ hm (by omega)]
theorem bM1{p:Pg}(hm:J6 p=true)(id:Int):al0 p id=((((b9 p).l.map (·.s)).find? fun s=>decide (s.id=id)).getD stZ):=by
 have h1:(b9 p).l.map (·.s)=(p.procs.flatMap fun q=>G4 q.body 1 0 false).map (·.s):=by
  unfold J6 at hm;rw[dt0]at hm;have:=bS1 p.procs ⟨p,[],[],[]⟩ 0 0 hm.2;exact this.trans (dB0 _)
 rw[h1,List.find?_map,List.find?_flatMap];unfold al0 bt3;have e:(fun q:Pr=>ap3 (G4 q.body 1 0 false) id)=fun q=>(G4 q.body 1 0 false).find? ((fun s=>decide (s.id=id)) ∘ fun x:Im=>x.s):=rfl;rw[e];cases p.procs.findSome? fun q=>(G4 q.body 1 0 false).find? ((fun s=>decide (s.id=id)) ∘ fun x:Im=>x.s)<;>rfl
theorem bM2{p:Pg}(hm:J6 p=true){id:Int}(h:id≤0):al0 p id=stZ:=by
 rw[bM1 hm,dz6.2]
 ·rfl
 ·intro s hs;obtain⟨it,hit,rfl⟩:=dt7.1 hs;obtain⟨j,hj⟩:=List.getElem?_of_mem hit;have:=X6 hm j it hj;simp only[du7];omega
theorem cd5{p:Pg}(hm:J6 p=true){it:It}(hit:it∈(b9 p).l):al0 p it.s.id=it.s:=by
 rw[bM1 hm];cases hf:((b9 p).l.map (·.s)).find? fun s=>decide (s.id=it.s.id)with
 | none=>
  have:=dz6.1 hf it.s (dt7.2 ⟨it,hit,rfl⟩);simp at this
 | some s=>
  have h1:=List.find?_some hf;obtain⟨it2,hit2,rfl⟩:=dt7.1 (List.mem_of_find?_eq_some hf);obtain⟨j,hj⟩:=List.getElem?_of_mem hit;obtain⟨k,hk⟩:=List.getElem?_of_mem hit2;have a1:=X6 hm j it hj;have a2:=X6 hm k it2 hk;have h1:=dr0 h1;obtain rfl:j=k:=by omega
  rw[hj]at hk;rw[ds8 hk];rfl
def cQ5(x:Im):Prop:=x.deep≤12∧O0 x.s.labels=true∧R5 x.s=true
mutual
theorem cv7:∀(t:St) (dd:Nat) (n m:Int) (d up:Int) (e:Bool),O0 t.labels=true→R5 t=true→((G8 dd t.thn n).bind fun m=>G8 dd t.els m)=some m→d+dd=12→∀x∈bA3 t d up e,cQ5 x
 | .mk id kind labels name proc x has args thn els,dd,n,m,d,up,e,hl,hf,h,hd,y,hy=>by
  simp only[St.thn,St.els]at h;obtain⟨m1,h1,h2⟩:=dx0.1 h;rw[bA3,if_pos (by omega)]at hy;rcases dt1.1 hy with rfl|hy
  ·exact⟨by simp only[];omega,hl,hf⟩
  ·rcases ds4.1 hy with hy|hy
   ·exact aH2 thn dd n m1 (d+1) id false h1 (by omega) y hy
   ·exact aH2 els dd m1 m (d+1) id true h2 (by omega) y hy
theorem aH2:∀(l:List St) (dd:Nat) (n m:Int) (d up:Int) (e:Bool),G8 dd l n=some m→d+dd=13→∀x∈G4 l d up e,cQ5 x
 | [],_,_,_,_,_,_,_,_,y,hy=>by simp[G4]at hy
 | t::l,0,n,m,d,up,e,h,hd,y,hy=>by simp[G8]at h
 | t::l,dd+1,n,m,d,up,e,h,hd,y,hy=>by
  rw[ay5]at h;obtain⟨m1,h1,h2⟩:=dx0.1 h;split at h1
  ·cases h1
  rename_i hc;have hl:O0 t.labels=true:=by
   cases hq:O0 t.labels with
   | true=>rfl
   | false=>exact absurd (.inr (.inr (.inl hq))) hc
  have hf:R5 t=true:=by
   cases hq:R5 t with
   | true=>rfl
   | false=>exact absurd (.inr (.inr (.inr hq))) hc
  rw[G4]at hy;rcases ds4.1 hy with hy|hy
  ·exact cv7 t dd _ m1 d up e hl hf h1 (by omega) y hy
  ·exact aH2 l (dd+1) m1 m d up e h2 hd y hy
end
def ao3(p:Pg):List Im:=p.procs.flatMap fun q=>G4 q.body 1 0 false
theorem by4{p:Pg}(hm:J6 p=true):(ao3 p).map (·.s)=(b9 p).l.map (·.s):=by
 unfold J6 at hm;rw[dt0]at hm;have:=bS1 p.procs ⟨p,[],[],[]⟩ 0 0 hm.2;exact(this.trans (dB0 _)).symm
theorem aT5{p:Pg}(hm:J6 p=true):(ao3 p).length=(b9 p).l.length:=by
 have:=ds7 List.length (by4 hm);simpa using this
theorem cq1{p:Pg}(hm:J6 p=true){j:Nat}(hj:j<(ao3 p).length):(ao3 p)[j].s.id=(j:Int)+1:=by
 have hj2:j<(b9 p).l.length:=by rw[←aT5 hm];exact hj
 have h1:((ao3 p).map (·.s))[j]?=((b9 p).l.map (·.s))[j]?:=by rw[by4 hm]
 rw[du5,du5,dq7 hj,dq7 hj2]at h1;have h2:(ao3 p)[j].s=(b9 p).l[j].s:=ds8 h1;have h3:=X6 hm j _ (dq7 hj2);rw[←h2]at h3;exact h3
theorem cq2{p:Pg}(hm:J6 p=true):∀x∈ao3 p,cQ5 x:=by
 intro x hx;obtain⟨q,hq,hx⟩:=dw1.1 hx;obtain⟨i,hi,rfl⟩:=dw5.1 hq;obtain⟨n,m,hpf⟩:=aQ9 hm hi;exact aH2 _ 12 _ _ 1 0 false (aE8 hpf).2.2.2 (by omega) x hx
theorem cz1{p:Pg}(hm:J6 p=true){i:Nat}(hi:i<p.procs.length):p.procs[i].params.length≤8∧p.procs[i].vars.length≤16∧K8 p.procs[i].name=true∧O0 p.procs[i].vars=true∧O0 p.procs[i].fin=true∧∀a∈p.procs[i].params,K8 a.name=true:=by
 obtain⟨n,m,h⟩:=aQ9 hm hi;unfold R3 at h;split at h
 ·cases h
 rename_i hc;simp only[not_or,Bool.not_eq_false]at hc;obtain⟨h1,h2,h3,h4,h5,h6⟩:=hc;exact⟨by omega,by omega,h3,h4,h5,fun a ha=>dx6.1 h6 a ha⟩
theorem bk2:∀{l:List Nat} {x:Nat},x∈l→x≤l.sum
 | a::l,x,h=>by
  rw[dB6];rcases dt1.1 h with rfl|h
  ·omega
  ·have:=bk2 h;omega
theorem cz4(v:Value)(p:Pg)(w:World)(hv:SV (i4 w) v p)(hmy:J6 p=true):
  p7 prog 70 #[v] w fun u w'=>(R (i4 w') u (ao3 p)∧o7 w w'):=by
 refine p8 [v] func70 rfl ?_;have h200:(ao3 p).length≤200:=by rw[aT5 hmy];exact G9 hmy
 have hcn:bp5 p≤200:=by rw[←an6];exact G9 hmy
 have hpl:=(M7 hmy).2;obtain⟨c,w1,hbx,hx1,hatp⟩:=P7 hv (d7 _);obtain⟨vg,vp,hvg,hvp,ldp,_⟩:=hatp.pg;have l1:=ldp w1 (d7 _);have hS:=hvp.isS;have hn:=hvp.vlen;simp only[i5,n8,simprocAttr,hbx,l1,hS,hn];refine n9 [1,7,8] (σ:=Nat×Value) (fun s f w'=>f 9 = .int .i64 s.1∧f 3=s.2∧s.1≤p.procs.length∧B0 (ai8 w' s.2) w' 57 s.2 ((p.procs.take s.1).flatMap fun q=>G4 q.body 1 0 false)∧o7 w1 w'∧∀b,A4 s.2 b→w1.heap.size≤b) (fun s=>p.procs.length-s.1) (0,.slice none 0 0) ?_ ?_
 ·simp only[p6,simprocAttr];exact⟨by trivial,by trivial,dr8 _,B0.nil _ _ _,t8.refl _,fun b hb=>absurd hb C6⟩
 rintro⟨k,uL⟩ f w2 hk ⟨h9,h3,hkl,ho2,hx2,hfr⟩;simp only at h9 h3 hkl ho2 hx2 hfr;simp only[dq9,p6,simprocAttr]at hk;obtain⟨e1,e7,e8,_⟩:=hk;simp only[i5,n8,simprocAttr,h9,e8];refine m8 (fun hc=>?_) (fun hc=>?_);rotate_left
 ·have hkL:k=p.procs.length:=by simp at hc;omega
  rw[hkL,ds2]at ho2;simp only[i5,simprocAttr,h3];refine o6 results70 ?_;simp only[p6,simprocAttr];exact⟨ho2.rw_ (aP3 _ _),hx1.trans hx2⟩
 have hlt:k<p.procs.length:=by simpa using hc
 have hin:=hvp.inS hlt;obtain⟨sv,hsv,hld⟩:=E4 (P:=prog) (t:=51) hvp (b7 hx2) (dq7 hlt) ae2 ae5 ac8 I4;rw[I4]at hld;have htk:(p.procs.take (k+1)).flatMap (fun q=>G4 q.body 1 0 false)=(p.procs.take k).flatMap (fun q=>G4 q.body 1 0 false)++G4 p.procs[k].body 1 0 false:=by
  rw[dr6 hlt,dC2];simp
 have hpre:((p.procs.take (k+1)).flatMap fun q=>G4 q.body 1 0 false).length≤200:=by
  refine dr7 ?_ h200;unfold ao3
  conv=>rhs;rw[←dv5 (k+1) p.procs]
  rw[dC2,dr1];omega
 rw[htk]at hpre;have hbq:A5 p.procs[k].body≤200:=dr7 (bk2 (dt7.2 ⟨p.procs[k],dr5 hlt,rfl⟩:A5 p.procs[k].body∈p.procs.map fun f=>A5 f.body)) hcn;generalize p.procs[k]=q at hsv htk hpre hbq;generalize(p.procs.take k).flatMap (fun q=>G4 q.body 1 0 false)=pre at ho2 htk hpre;obtain⟨d,wz,w3,hal,hst,hx3,hat⟩:=am3 (w:=w2) (fun _=>False) hsv (fun _ h=>h.elim);have l3:=(I2.pr_v hsv hat).1 w3 (B3 _ _);have hx13:=hx2.trans hx3;simp only[i5,n8,z6,simprocAttr,h9,e7,h3,hin,hld,hal,hst,l3];refine z7 (aV9 (i4 w1) sv q w3 hsv (b7 hx13) hbq) ?_;rintro u w4 ⟨ho,hfu,hx4⟩;have hx14:=hx13.trans hx4;have ho4:=ho2.but (hx3.trans hx4);have hu:=ho.beside (w:=w4) (v:=uL) (fun b o e=>by
  rw[W8 fun h=>by have:=hfr b h;have:=(dr3.1 (show w1.heap[b]?=some o from e)).1;omega];exact b7 hx14 b o e) (fun b hb h=>by have:=ho2.lt h;have:=hfu b hb;have:=hx3.size;omega)
 rw[dr1]at hpre;obtain⟨v',w5,p2,p3,p4,p5⟩:=ag3 (P:=prog) (e:=54) cP3 rfl ho4 hu (by omega) (by omega) (aP3 _ _);have hnl:=p3.vlen;have hSl:=p3.isS;have hc200:decide ((200:Int)<(((pre++G4 q.body 1 0 false).length:Nat):Int))=false:=du3 (by rw[dr1];omega);have hsz:=hx14.size;simp only[i5,n8,simprocAttr,h9,p2,hSl,hnl,hc200];refine⟨(k+1,v'),by simp only[];omega,by simp only[];rw[A8 k (by omega)],by trivial,by simp only[];omega,?_,?_,fun b hb=>?_⟩
 ·simp only[];rw[htk];exact p3.rebase (p9 (ck4 p4 p5) (aP3 _ _))
 ·exact t8.ext_of hx14 p4 hfr
 ·rcases p5 b hb with h|h
  ·exact hfr b h
  ·omega
theorem At.toV{α:Type}[A3 α]{h:Hp}{a:Addr}{x:α}(ha:At h a x):∃v,SV h v x∧I2 h a v:=by
 obtain⟨es,h1,h2⟩:=ha;exact⟨.agg es.toArray,⟨es,rfl,h1⟩,⟨es,rfl,h2⟩⟩
theorem cz6(v:Value)(p:Pg)(w:World)(hv:SV (i4 w) v p)(hmy:J6 p=true)(hw:D1 p≤1000000):
  p7 prog 43 #[v] w fun u w'=>(u = .bool true∧o7 w w'):=by
 refine p8 [v] func43 rfl ?_;have h200:(ao3 p).length≤200:=by rw[aT5 hmy];exact G9 hmy
 obtain⟨hgl,hpl⟩:=M7 hmy;have hng:O0 p.globals=true:=dx6.2 (bI4 hmy);have hwi:∀x∈ao3 p,O6 x.s≤1000000:=fun x hx=>by
  have h1:x.s∈(ao3 p).map (·.s):=dt7.2 ⟨x,hx,rfl⟩;rw[by4 hmy]at h1;obtain⟨it,hit,e⟩:=dt7.1 h1;rw[←e];exact Z5 p hw it hit
 have hid:=fun j (hj:j<(ao3 p).length)=>cq1 hmy hj;have hok:=cq2 hmy;obtain⟨c,w1,hbx,hx1,hatp⟩:=P7 hv (d7 _);obtain⟨vg,vp,hvg,hvp,ldp,_⟩:=hatp.pg;obtain⟨sp,hsp,lds,_⟩:=hatp.pg_v;have l1:=ldp w1 (d7 _);have hS:=hvp.isS;have hn:=hvp.vlen;have hSg:=hvg.isS;have hng':=hvg.vlen;have k1:decide ((16:Int)<(p.globals.length:Int))=false:=du3 (by omega);have k2:decide ((16:Int)<(p.procs.length:Int))=false:=du3 (by omega);simp only[i5,n8,simprocAttr,hbx,l1,hS,hn,hSg,hng',k1,k2];refine B2 (ay3 vg p.globals w1 hvg (by omega) hng) (fun w2 hx2=>?_);have l2:=ldp w2 (b7 hx2);simp only[i5,n8,simprocAttr,l2,hS,hn];refine n9 [1,26,27] (σ:=Nat) (fun k f w'=>f 28 = .int .i64 k∧k≤p.procs.length∧o7 w1 w') (fun k=>p.procs.length-k) 0 ?_ ?_
 ·simp only[p6,simprocAttr];exact⟨by trivial,dr8 _,hx2⟩
 rintro k f w3 hk ⟨h28,hkl,hx3⟩;simp only[dq9,p6,simprocAttr]at hk;obtain⟨e1,e26,e27,_⟩:=hk;simp only[i5,n8,simprocAttr,h28,e27];refine m8 (fun hc=>?_) (fun hc=>?_)
 ·have hlt:k<p.procs.length:=by simpa using hc
  have hin:=hvp.inS hlt;obtain⟨sv,hsv,hld⟩:=E4 (P:=prog) (t:=51) hvp (b7 hx3) (dq7 hlt) ae2 ae5 ac8 I4;rw[I4]at hld;obtain⟨m1,m2,m3,m4,m5,m6⟩:=cz1 hmy hlt;have hfl:p.procs[k].fin.length≤1000000000:=by
   have h1:=ah1 (dr5 hlt);have h2:=Q7 p.procs[k].fin;unfold D1 at hw;unfold U2 at h1;omega
  generalize p.procs[k]=q at hsv m1 m2 m3 m4 m5 m6 hfl;obtain⟨d,wz,w4,hal,hst,hx4,hat⟩:=az8 (hsv.mono (b7 hx3)) (d7 _);obtain⟨vpa,vva,vbo,vfi,hpa,hva,hbo,hfi,ldq,_⟩:=hat.pr;have l4:=ldq w4 (d7 _);simp only[i5,n8,z6,simprocAttr,h28,e26,hin,hld,hal,hst,l4];refine B2 (ac5 q.name w4 m3) (fun w5 hx5=>?_);have l5:=ldq w5 (b7 hx5);have hSp:=hpa.isS;have hnp:=hpa.vlen;have hSv:=hva.isS;have hnv:=hva.vlen;have j1:decide ((8:Int)<(q.params.length:Int))=false:=du3 (by omega);have j2:decide ((16:Int)<(q.vars.length:Int))=false:=du3 (by omega);simp only[i5,n8,simprocAttr,l5,hSp,hnp,hSv,hnv,j1,j2];refine B2 (ay3 vva q.vars w5 (A3.mono (b7 hx5) hva) (by omega) m4) (fun w6 hx6=>?_);have l6:=ldq w6 (b7 (hx5.trans hx6));simp only[i5,n8,simprocAttr,l6];refine B2 (ay3 vfi q.fin w6 (A3.mono (b7 (hx5.trans hx6)) hfi) hfl m5) (fun w7 hx7=>?_);have hx47:=(hx5.trans hx6).trans hx7;have l7:=ldq w7 (b7 hx47);simp only[i5,n8,simprocAttr,l7,hSp,hnp];refine n9 [1,26,27,28,61,62] (σ:=Nat) (fun j f w'=>f 63 = .int .i64 j∧j≤q.params.length∧o7 w4 w') (fun j=>q.params.length-j) 0 ?_ ?_
  ·simp only[p6,simprocAttr];exact⟨by trivial,dr8 _,hx47⟩
  rintro j f2 w8 hk2 ⟨h63,hjl,hx8⟩;simp only[dq9,p6,↓reduceIte,Nat.reduceEqDiff]at hk2;obtain⟨g1,g26,g27,g28,g61,g62,_⟩:=hk2;simp only[i5,n8,simprocAttr,h63,g62];refine m8 (fun hc2=>?_) (fun hc2=>?_)
  ·have hltj:j<q.params.length:=by simpa using hc2
   have hin2:=hpa.inS hltj;obtain⟨sv2,hsv2,hld2⟩:=E4 (P:=prog) (t:=68) hpa (b7 hx8) (dq7 hltj) bc8 bd1 aS7 aj3;rw[aj3]at hld2;have hay:=m6 _ (dr5 hltj);generalize q.params[j]=y at hsv2 hay;obtain⟨d2,wz2,w9,hal2,hst2,hx9,hat2⟩:=az7 (hsv2.mono (b7 hx8)) (d7 _);have l9:=hat2.pa.1 w9 (d7 _);simp only[i5,n8,z6,simprocAttr,h63,g61,hin2,hld2,hal2,hst2,l9];refine B2 (ac5 y.name w9 hay) (fun w10 hx10=>?_);simp only[i5,n8,simprocAttr,h63];exact⟨j+1,by omega,by rw[A8 j (by omega)],by omega,hx8.trans (hx9.trans hx10)⟩
  ·rw[h28]at g28;simp only[i5,n8,simprocAttr,g28];exact⟨k+1,by omega,by rw[A8 k (by omega)],by omega,hx3.trans (hx4.trans hx8)⟩
 have l3:=lds w3 (b7 hx3);simp only[i5,simprocAttr,e1,l3];refine z7 (cz4 sp p w3 (hsp.mono (b7 hx3)) hmy) ?_;rintro u w4 ⟨hR,hx4⟩;generalize ao3 p=l at hR h200 hwi hid hok;have hSl:=hR.isS;have hnl:=hR.vlen;have k3:decide ((200:Int)<(l.length:Int))=false:=du3 (by omega);simp only[i5,n8,simprocAttr,hSl,hnl,k3];refine n9 [7,78,79] (σ:=Nat) (fun j f w'=>f 80 = .int .i64 j∧j≤l.length∧o7 w4 w') (fun j=>l.length-j) 0 ?_ ?_
 ·simp only[p6,simprocAttr];exact⟨by trivial,dr8 _,t8.refl _⟩
 rintro j f2 w5 hk2 ⟨h80,hjl,hx5⟩;simp only[dq9,p6,↓reduceIte,Nat.reduceEqDiff]at hk2;obtain⟨g7,g78,g79,_⟩:=hk2;simp only[i5,n8,simprocAttr,h80,g79];refine m8 (fun hc2=>?_) (fun hc2=>?_);rotate_left
 ·simp only[i5,simprocAttr];refine o6 results43 ?_;simp only[p6,simprocAttr];exact⟨by trivial,hx1.trans (hx3.trans (hx4.trans hx5))⟩
 have hlt:j<l.length:=by simpa using hc2
 have hin:=hR.inS hlt;have hat:=hR.at_ (dq7 hlt);have hidj:=hid j hlt;obtain⟨o1,o2,o3⟩:=hok _ (dr5 hlt);have hwt:=hwi _ (dr5 hlt);generalize l[j]=x at hat hidj o1 o2 o3 hwt;have hz16:A3.sz Im=16:=rfl;rw[hz16]at hat;obtain⟨xv,hxv,hax⟩:=hat.toV;obtain⟨us,hus,hats,ldi,_⟩:=I2.im hxv hax;obtain⟨_,_,_,_,_,_,_,_,_,_,_,ldid,_⟩:=I2.st hus hats;have hh5:=b7 hx5;have t1:=(ldid w5 hh5).1;have t2:=(ldi w5 hh5).1;have t3:=(I2.st_v hus hats).1 w5 hh5;have hwj:IntKind.i64.wrap ((j:Int)+1)=((j+1:Nat):Int):=A8 j (by omega);have d1:decide (x.s.id=((j+1:Nat):Int))=true:=du9 (by omega);have d2:decide ((12:Int)<x.deep)=false:=du3 (by omega);have hll:x.s.labels.length≤1000000000∧x.s.args.length≤1000000000:=by
  have h1:=Q7 x.s.labels;have h2:=ag9 x.s.args;rw[P2]at hwt;omega
 simp only[i5,n8,z6,simprocAttr,h80,g7,hin,t1,t2,t3,hwj,d1,d2];refine B2 (cz7 us x.s w5 (hus.mono hh5) o2 o3 hll.1 hll.2) (fun w6 hx6=>?_);simp only[i5,n8,simprocAttr,h80,hwj];exact⟨j+1,by omega,by trivial,by omega,hx5.trans hx6⟩
def aH9:Array Value:=#[o9 e0,.slice none 0 0,.slice none 0 0,.slice none 0 0,.slice none 0 0]
theorem cM6:G0 prog 51=some (.agg aH9):=ce4
theorem bI0{p:Pg}{n:A7}{i:Nat}(hb:aL2 p n i):(p.procs[i]'hb.2.2).name=n∧∀k (hk:k<p.procs.length),p.procs[k].name=n→k=i:=by
 have hK:=(U0 hb.1).toKnown;have e:=hb.2.1;obtain⟨k,e1,x,hx,hp⟩:=au7 _ p.procs 0 (show 0≤V5 (fun f=>decide (f.name=n)) 0 p.procs by show 0≤S5 p.procs n;omega);have e2:S5 p.procs n=((0+k:Nat):Int):=e1;obtain rfl:k=i:=by omega
 obtain⟨hk,rfl⟩:=dr4.1 hx;refine⟨dr0 hp,fun j hj ej=>?_⟩;have h1:=bb1 hK hj;have h2:=bb1 hK hk;rw[ej]at h1;rw[dr0 hp]at h2;omega
theorem cm9(v:Value)(p:Pg)(n:A7)(i:Nat)(w:World)(hv:SV (i4 w) v p)(hw:D1 p≤1000000)(hb:aL2 p n i):
  p7 prog 20 #[v,o9 n] w fun u w'=>(∃qv,u = .tuple #[qv,.bool true]∧SV (i4 w') qv (p.procs[i]'hb.2.2)∧o7 w w'):=by
 refine p8 [v,o9 n] func20 rfl ?_;have hi:=hb.2.2;have hpl:=(M7 (U0 hb.1).may).2;obtain⟨hnm,huq⟩:=bI0 hb;obtain⟨c,w1,hbx,hx1,hatp⟩:=P7 hv (d7 _);obtain⟨vg,vp,_,hvp,ldp,_⟩:=hatp.pg;obtain⟨sp,hsp,lds,_⟩:=hatp.pg_v;have hz:=cM6;obtain⟨hal,_⟩:=aJ7 (P:=prog) (w:=w1) (T:=51) hz (by rw[I4];rfl) (cs:=aH9) (by rw[I4];rfl) (by simp[aH9,o9,Value.oneCell']);have hx2:=o7.alloc w1 (.cells (Value.agg aH9).cells 51);have hc2:=dv4 w1 (.cells (Value.agg aH9).cells 51);generalize w1.alloc (.cells (Value.agg aH9).cells 51)=w2 at hal hx2 hc2;have hrb:w1.heap.size<w2.heap.size:=(dr3.1 hc2).1;have hsz1:=hx1.size;generalize hrbe:w1.heap.size=rb at hal hc2 hrb hsz1;have l2:=lds w2 (b7 hx2);have hS:=hvp.isS;have hn:=hvp.vlen;simp only[i5,n8,simprocAttr,hbx,hal,l2];refine B2 (cz6 sp p w2 (hsp.mono (b7 hx2)) (U0 hb.1).may hw) (fun w3 hx3=>?_);have hx13:=hx2.trans hx3;have l3:=ldp w3 (b7 hx13);simp only[i5,n8,simprocAttr,l3,hS,hn];refine n9 [1,4,11,12] (σ:=Nat) (fun k f w'=>f 13 = .int .i64 k∧k≤p.procs.length∧(∀j (hj:j<p.procs.length),j<k→p.procs[j].name≠n)∧o7 w3 w') (fun k=>p.procs.length-k) 0 ?_ ?_
 ·simp only[p6,simprocAttr];exact⟨by trivial,dr8 _,fun j _ h=>by omega,t8.refl _⟩
 rintro k f w4 hk ⟨h13,hkl,hno,hx4⟩;simp only[dq9,p6,simprocAttr]at hk;obtain⟨e1,e4,e11,e12,_⟩:=hk;simp only[i5,n8,simprocAttr,h13,e12];refine m8 (fun hc=>?_) (fun hc=>?_);rotate_left
 ·have hkL:k=p.procs.length:=by simp at hc;omega
  exact absurd hnm (hno i hi (by omega))
 have hlt:k<p.procs.length:=by simpa using hc
 have hx14:=hx13.trans hx4;have hin:=hvp.inS hlt;obtain⟨sv,hsv,hld⟩:=E4 (P:=prog) (t:=51) hvp (b7 hx14) (dq7 hlt) ae2 ae5 ac8 I4;rw[I4]at hld;have hki:=huq k hlt;have hq2:k=i→p.procs[k]=p.procs[i]:=fun e=>by subst e;rfl
 have hnn:p.procs[k].name≠n→∀j (hj:j<p.procs.length),j<k+1→p.procs[j].name≠n:=fun h j hj hlt2=>by
  rcases dv3 j k with h3|h3
  ·exact hno j hj h3
  ·obtain rfl:j=k:=by omega
   exact h
 generalize p.procs[k]=q at hsv hki hq2 hnn;obtain⟨d,wz,w5,hald,hst,hx5,hat⟩:=am3 (w:=w4) (fun _=>False) hsv (fun _ h=>h.elim);have l5:=(I2.pr_v hsv hat).1 w5 (B3 _ _);obtain⟨_,_,_,_,_,_,_,_,ldq,_⟩:=I2.pr hsv hat;have lq:=(ldq w5 (B3 _ _)).1;rcases dq8 (decide (q.name=n))with hd|hd;rotate_left
 ·simp only[i5,n8,z6,simprocAttr,h13,e11,e1,hin,hld,hald,hst,lq,hd];exact⟨k+1,by omega,by rw[A8 k (by omega)],by omega,hnn (dr2 hd),hx4.trans hx5⟩
 ·have hqi:=hq2 (hki (dr0 hd));have hx25:o7 w2 w5:=hx3.trans (hx4.trans hx5);have hc5:=(hx25.block rb hrb (fun h=>h)).trans hc2;obtain⟨cs,rfl,he⟩:=hsv;have hcl:cs.length=5:=A3.len he;obtain⟨w6,q1,q2,q3⟩:=Z7 (P:=prog) (T:=51) (cs:=cs.toArray) hc5 hz (by rw[I4];rfl) (by rw[I4];simpa using hcl) (fun u hu=>A3.one he u (by simpa using hu));have hx16:o7 w1 w6:=t8.ext_of (hx2.trans hx25) q3 fun b hb=>by omega
  simp only[i5,n8,z6,simprocAttr,h13,e11,e1,e4,hin,hld,hald,hst,lq,l5,hd,q1];refine aq2 results20 (ad:=⟨rb,0,none⟩) (by simp only[p6,simprocAttr];exact e4) (S9 q2 ae2 ae5 ac8 (by rw[I4];simpa using hcl.symm)) ?_;refine⟨_,rfl,?_,hx1.trans hx16⟩;rw[←hqi];exact⟨cs,rfl,A3.mono (b7 hx16) he⟩
theorem cb1(v:Value)(l:List A7)(x:A7)(w:World)(hv:R (i4 w) v l)(hl:l.length≤1000000000):
  p7 prog 17 #[v,o9 x] w fun u w'=>(u = .bool (l.contains x)∧o7 w w'):=by
 refine p8 [v,o9 x] func17 rfl ?_;have hS:=hv.isS;have hn:=hv.vlen;simp only[i5,n8,simprocAttr,hS,hn];refine n9 [0,1,6,7] (σ:=Nat) (fun i f w'=>f 8 = .int .i64 i∧i≤l.length∧(∀y∈l.take i,y≠x)∧o7 w w') (fun i=>l.length-i) 0 ?_ ?_
 ·simp only[p6,simprocAttr];exact⟨by trivial,dr8 _,fun y h=>by simp at h,t8.refl _⟩
 rintro i f w2 hk ⟨h8,hil,hno,hx2⟩;simp only[dq9,p6,simprocAttr]at hk;obtain⟨e0',e1,e6,e7,_⟩:=hk;simp only[i5,n8,simprocAttr,h8,e7];refine m8 (fun hc=>?_) (fun hc=>?_);rotate_left
 ·have hge:i=l.length:=by simp at hc;omega
  rw[hge,ds2]at hno;simp only[i5,simprocAttr];refine o6 results17 ?_;simp only[p6,simprocAttr];refine⟨?_,hx2⟩;have:l.contains x=false:=by
   rw[dB2];exact fun h=>hno x (dt6.1 h) rfl
  rw[this]
 have hlt:i<l.length:=by simpa using hc
 have hin:=hv.inS hlt;have hld:=ldS hv (b7 hx2) hlt;rcases dq8 (decide (l[i]=x))with hq|hq
 ·simp only[i5,n8,z6,simprocAttr,h8,e0',e1,hin,hld,hq];refine o6 results17 ?_;simp only[p6,simprocAttr];refine⟨?_,hx2⟩;rw[dt6.2 (dr0 hq ▸ dr5 hlt)]
 ·simp only[i5,n8,z6,simprocAttr,h8,e0',e1,hin,hld,hq];refine⟨i+1,by omega,by rw[A8 i (by omega)],by omega,fun y hy=>?_,hx2⟩;rw[dr6 hlt,ds4,dt8]at hy;rcases hy with hy|rfl
  ·exact hno y hy
  ·exact dr2 hq
theorem aZ5(va vb:Value)(la lb:List A7)(w:World)(ha:R (i4 w) va la)(hb:R (i4 w) vb lb)(hl:la.length≤1000000000):
  p7 prog 27 #[va,vb] w fun u w'=>(u = .bool (decide (la=lb))∧o7 w w'):=by
 refine p8 [va,vb] func27 rfl ?_;have hSa:=ha.isS;have hna:=ha.vlen;have hSb:=hb.isS;have hnb:=hb.vlen;rcases dq8 (decide ((la.length:Int)=(lb.length:Int)))with h0|h0;rotate_left
 ·simp only[i5,n8,simprocAttr,hSa,hna,hSb,hnb,h0];refine o6 results27 ?_;simp only[p6,simprocAttr];refine⟨?_,t8.refl _⟩;rw[du3 fun e=>dr2 h0 (by rw[e])]
 have hlen:la.length=lb.length:=by have:=dr0 h0;omega
 simp only[i5,n8,simprocAttr,hSa,hna,hSb,hnb,h0];refine n9 [0,1,11,12] (σ:=Nat) (fun k f w'=>f 13 = .int .i64 k∧k≤la.length∧(∀j,j<k→la[j]?=lb[j]?)∧o7 w w') (fun k=>la.length-k) 0 ?_ ?_
 ·simp only[p6,simprocAttr];exact⟨by trivial,dr8 _,fun j h=>by omega,t8.refl _⟩
 rintro k f w1 hk ⟨h13,hkl,hall,hx⟩;simp only[dq9,p6,simprocAttr]at hk;obtain⟨e0,e1,e11,e12,_⟩:=hk;simp only[i5,n8,simprocAttr,h13,e12];refine m8 (fun hc=>?_) (fun hc=>?_);rotate_left
 ·have hge:k=la.length:=by simp at hc;omega
  subst hge;simp only[i5,simprocAttr];refine o6 results27 ?_;simp only[p6,simprocAttr];refine⟨?_,hx⟩;rw[du9 (dD7 fun j=>?_)];rcases dv3 j la.length with h|h
  ·exact hall j h
  ·rw[dy9 h,dy9 (by omega)]
 have hlt:k<la.length:=by simpa using hc
 have hltb:k<lb.length:=by omega
 have hinA:=ha.inS hlt;have hinB:=hb.inS hltb;have hxd:=hx.trans (o7.drew w1);have t1:∀K f d w0',I1 prog (fun w'=>o7 w1.drew w') (Instr.loadAt 9 (.pointer (some (H2 va k)))) K f d w0'=K (C4 f d (o9 la[k])) w0':=fun K f d w0'=>D5 (w0:=w1.drew) (t8.refl _) fun w' h=>ldS ha (b7 (hxd.trans h)) hlt;have t2:∀K f d w0',I1 prog (fun w'=>o7 w1.drew w') (Instr.loadAt 9 (.pointer (some (H2 vb k)))) K f d w0'=K (C4 f d (o9 lb[k])) w0':=fun K f d w0'=>D5 (w0:=w1.drew) (t8.refl _) fun w' h=>ldS hb (b7 (hxd.trans h)) hltb;simp only[i5,simprocAttr,h13];refine C0 (fun w'=>o7 w1.drew w') 8 (A9 [0,1,2,3,4,5,6,7]) ?_;simp only[D2,A9,i5,n8,z6,simprocAttr,e0,e1,hinA,hinB,t1,t2];rcases dq8 (decide (la[k]=lb[k]))with hq|hq
 ·simp only[i5,n8,simprocAttr,hq,h13];refine⟨k+1,by omega,by rw[A8 k (by omega)],by omega,fun j hj=>?_,hxd⟩;rcases dv3 j k with h|h
  ·exact hall j h
  ·obtain rfl:j=k:=by omega
   rw[dq7 hlt,dq7 hltb,dr0 hq]
 ·simp only[i5,n8,simprocAttr,hq];refine o6 results27 ?_;simp only[p6,simprocAttr];refine⟨?_,hxd⟩;rw[du3 fun e=>dr2 hq (by simp only[e])]
def af6(x y:Vx)(k:Int)(e:Eg):Bool:=decide (e.src=x)&&(decide (e.dst=y)&&(decide (k=0)||decide (e.kind=k)))
theorem bK1(v:Value)(l:List Eg)(x y:Vx)(k:Int)(w:World)(hv:R (i4 w) v l)(hl:l.length≤1000000000):
  p7 prog 31 #[v,.agg (A6.cells x).toArray,.agg (A6.cells y).toArray,.int .i64 k] w fun u w'=>(u = .bool (l.any (af6 x y k))∧o7 w w'):=by
 refine p8 [v,.agg (A6.cells x).toArray,.agg (A6.cells y).toArray,.int .i64 k] func31 rfl ?_;have hS:=hv.isS;have hn:=hv.vlen;obtain⟨d1,w1,hb1,hx1,hat1⟩:=be2 (SV.ofN (i4 w) x) (d7 _);obtain⟨d2,w2,hb2,hx2,hat2⟩:=be2 (SV.ofN (i4 w1) y) (d7 _);obtain⟨sv1,hsv1,ld1,_⟩:=hat1.vx_v;obtain⟨sv2,hsv2,ld2,_⟩:=hat2.vx_v;obtain rfl:=hsv1.N;obtain rfl:=hsv2.N;have hx02:=hx1.trans hx2;simp only[i5,n8,simprocAttr,hb1,hb2,hS,hn];refine n9 [0,3,5,6,11,12] (σ:=Nat) (fun i f w'=>f 13 = .int .i64 i∧i≤l.length∧(∀j (hj:j<l.length),j<i→af6 x y k l[j]=false)∧o7 w2 w') (fun i=>l.length-i) 0 ?_ ?_
 ·simp only[p6,simprocAttr];exact⟨by trivial,dr8 _,fun j _ h=>by omega,t8.refl _⟩
 rintro i f w3 hk ⟨h13,hil,hno,hx3⟩;simp only[dq9,p6,simprocAttr]at hk;obtain⟨e0,e3,e5,e6,e11,e12,_⟩:=hk;simp only[i5,n8,simprocAttr,h13,e12];refine m8 (fun hc=>?_) (fun hc=>?_);rotate_left
 ·have hge:i=l.length:=by simp at hc;omega
  subst hge;simp only[i5,simprocAttr];refine o6 results31 ?_;simp only[p6,simprocAttr];refine⟨?_,hx02.trans hx3⟩;have:l.any (af6 x y k)=false:=by
   rw[List.any_eq_false];intro e he;obtain⟨j,hj,rfl⟩:=dw5.1 he;rw[hno j hj hj];simp
  rw[this]
 have hlt:i<l.length:=by simpa using hc
 have hin:=hv.inS hlt;obtain⟨sv,hsv,hld⟩:=E4 (P:=prog) (t:=60) hv (b7 (hx02.trans hx3)) (dq7 hlt) ce1 ce2 bw9 aS9;rw[aS9]at hld;have hany:af6 x y k l[i]=true→l.any (af6 x y k)=true:=fun h=>dE3.2 ⟨_,dr5 hlt,h⟩;have hno2:af6 x y k l[i]=false→∀j (hj:j<l.length),j<i+1→af6 x y k l[j]=false:=fun h j hj hji=>by
  rcases dv3 j i with h'|h'
  ·exact hno j hj h'
  ·obtain rfl:j=i:=by omega
   exact h
 generalize l[i]=e at hsv hany hno2;obtain⟨d,wz,w4,hal,hst,hx4,hat⟩:=ce6 (hsv.mono (b7 (hx02.trans hx3))) (d7 _);obtain⟨hxs,hxd,ldk,_⟩:=hat.eg;obtain⟨sv3,hsv3,ls,_⟩:=hxs.vx_v;obtain⟨sv4,hsv4,ldd,_⟩:=hxd.vx_v;obtain rfl:=hsv3.N;obtain rfl:=hsv4.N;have l1:=ls w4 (d7 _);have l2:=ldd w4 (d7 _);have l3:=ldk w4 (d7 _);have l4:=ld1 w4 (b7 (hx2.trans (hx3.trans hx4)));have l5:=ld2 w4 (b7 (hx3.trans hx4));have hql:=fun w0 a b=>cu2 w0 a b e.src x;have hql2:=fun w0 a b=>cu2 w0 a b e.dst y;have hx24:=hx3.trans hx4;rcases dq8 (decide (e.src=x))with h1|h1;rotate_left
 ·simp only[A6.cells]at l1 l4;simp only[i5,n8,z6,simprocAttr,h13,e5,e11,hin,hld,hal,hst,l1,l4,V2,hql,h1];exact⟨i+1,by omega,by rw[A8 i (by omega)],by omega,hno2 (by unfold af6;rw[h1];rfl),hx24⟩
 rcases dq8 (decide (e.dst=y))with h2|h2;rotate_left
 ·simp only[A6.cells]at l1 l2 l4 l5;simp only[i5,n8,z6,simprocAttr,h13,e5,e6,e11,hin,hld,hal,hst,l1,l4,l2,l5,V2,hql,hql2,h1,h2];exact⟨i+1,by omega,by rw[A8 i (by omega)],by omega,hno2 (by unfold af6;rw[h1,h2];rfl),hx24⟩
 simp only[A6.cells]at l1 l2 l4 l5;rcases dq8 (decide (k=0))with h3|h3
 ·simp only[i5,n8,z6,simprocAttr,h13,e3,e5,e6,e11,hin,hld,hal,hst,l1,l4,l2,l5,V2,hql,hql2,h1,h2,h3];refine o6 results31 ?_;simp only[p6,simprocAttr];exact⟨by rw[hany (by unfold af6;rw[h1,h2,h3];rfl)],hx02.trans hx24⟩
 rcases dq8 (decide (e.kind=k))with h4|h4
 ·simp only[i5,n8,z6,simprocAttr,h13,e3,e5,e6,e11,hin,hld,hal,hst,l1,l4,l2,l5,l3,V2,hql,hql2,h1,h2,h3,h4];refine o6 results31 ?_;simp only[p6,simprocAttr];exact⟨by rw[hany (by unfold af6;rw[h1,h2,h3,h4];rfl)],hx02.trans hx24⟩
 ·simp only[i5,n8,z6,simprocAttr,h13,e3,e5,e6,e11,hin,hld,hal,hst,l1,l4,l2,l5,l3,V2,hql,hql2,h1,h2,h3,h4];exact⟨i+1,by omega,by rw[A8 i (by omega)],by omega,hno2 (by unfold af6;rw[h1,h2,h3,h4];rfl),hx24⟩
theorem bz9{α:Type}(P:α→Bool){l:List α}{k:Nat}(h:k<l.length):(l.take (k+1)).filter P=(l.take k).filter P++(if P l[k]then[l[k]]else[]):=by
 rw[dr6 h,dy3];cases hp:P l[k]<;>simp[hp]
theorem ci4{p:Pg}{i:Nat}(hr:E8 p)(hw:D1 p≤1000000)(hi:i<p.procs.length):((y5 p).edges (i:Int)).length≤60000000:=by
 have h1:=aZ2 hr hw hi;have h2:(((y5 p).verts (i:Int)).flatMap (G2 p.procs[i].name)).length≤((y5 p).verts (i:Int)).length*1:=S1 _ 1 _ fun v _=>aS0 _ v;have h3:=aY1 hr hw hi;have h4:=bt4 hr hw hi;have h5:(((y5 p).flows (i:Int)).flatMap fun f=>((y5 p).takers p.procs[i].name f.dst f.var).map fun v=>(⟨(y5 p).giver p.procs[i].name f.src f.var,v,2⟩:Eg)).length≤((y5 p).flows (i:Int)).length*9:=S1 _ 9 _ fun f hf=>by
  rw[dr9];exact aN0 hr hw (aD5 hr hw hi hf).2
 have hF:(y5 p).edge0 (i:Int)=(E2 (b9 p) i).decides.map (af4 p.procs[i].name)++((y5 p).verts (i:Int)).flatMap (G2 p.procs[i].name)++((y5 p).flows (i:Int)).flatMap fun f=>((y5 p).takers p.procs[i].name f.dst f.var).map fun v=>(⟨(y5 p).giver p.procs[i].name f.src f.var,v,2⟩:Eg):=by
  unfold Bk.edge0;rw[Z8 hi,T9 hi]
 unfold Bk.edges bn0;refine dr7 (aG4 _) ?_;rw[(G5 cH1 _).length_eq,hF];simp only[dr1,dr9]at *;omega
theorem cg6{p:Pg}(K:Known p){q:A7}(hq:q∈p.procs.map (·.name))(hR:ab0 p=true):∃(i:Nat) (hi:i<p.procs.length),aL2 p q i∧p.procs[i].name=q:=by
 obtain⟨i,hi,e,hn⟩:=ac4 hq;refine⟨i,hi,⟨hR,?_,hi⟩,hn⟩;unfold Sh.pr at e;rw[J0]at e;exact e
def aa0(p:Pg)(id:Int):Bool:=decide ((al0 p id).kind=4)
theorem bk9{p:Pg}(hm:J6 p=true){a:Int}(h:a=0∨a = -1∨Mid p a):aa0 p a=true↔a≠0∧a ≠ -1∧((b9 p).it a).s.kind=4:=by
 unfold aa0;rcases h with rfl|rfl|⟨j,rfl,hj⟩
 ·rw[bM2 hm (by omega)];simp[stZ,St.kind]
 ·rw[bM2 hm (by omega)];simp[stZ,St.kind]
 ·have hg:(b9 p).l[j]?=some (b9 p).l[j]:=dq7 hj;have hid:=X6 hm j _ hg;have hit:(b9 p).it ((j:Int)+1)=(b9 p).l[j]:=by
   unfold Sh.it;rw[show((j:Int)+1-1).toNat=j by omega,List.getD,hg];rfl
  have hs:=cd5 hm (dr5 hj);rw[hid]at hs;rw[hs,hit];simp only[du7];constructor
  ·exact fun h=>⟨by omega,by omega,h⟩
  ·exact fun h=>h.2.2
def ao8(l:List Vx)(kd id:Int):Nat:=(l.filter fun v=>decide (v.kind=kd)&&decide (v.id=id)).length
def ba6(p:Pg)(s:St):Int:=((M4 p s.proc).length:Int)-if s.name=e0 then 1 else 0
def do3(p:Pg)(v:Vx):Prop:=
 (v.kind=5→(al0 p v.id).kind=4∧v.slot∈T5 p (al0 p v.id).proc) ∧
 (v.kind=6→(al0 p v.id).kind=4∧v.slot∈M4 p (al0 p v.id).proc∧(v.slot=I3→(al0 p v.id).name≠e0))
structure cF1 (p:Pg) (q:A7) (l:List Im) (V:List Vx) (L:List Eg):Prop where
 efew:L.length≤60000000
 vfew:V.length≤30000
 ifew:l.length≤200
 vx:∀v∈V,do3 p v
 cnt:∀x∈l,x.s.kind=4→ao8 V 5 x.s.id=(T5 p x.s.proc).length∧(ao8 V 6 x.s.id:Int)=ba6 p x.s
 gl:∀x∈l,(M4 p x.s.proc).length≤26∧(T5 p x.s.proc).length≤33
 eg:∀e∈L,e.kind=2→(e.src.kind=2→aa0 p e.src.id=false)∧(e.dst.kind=2→aa0 p e.dst.id=false)∧e.src.kind≠5∧e.dst.kind≠6
section
variable {p:Pg} {s:St} {c:Nat}
theorem bO8(hR:ab0 p=true)(hc:aB5 p s c):T5 p s.proc=(y5 p).slotsIn (c:Int)∧M4 p s.proc=(y5 p).slotsOut (c:Int):=by
 have hb:aL2 p s.proc c:=⟨hR,hc.idx,hc.lt⟩;constructor
 ·unfold T5;rw[ac0 hb]
 ·unfold M4;rw[ac0 hb]
theorem aW8(p:Pg)(n:A7)(hw:D1 p≤1000000):(M4 p n).length≤26∧(T5 p n).length≤33:=by
 unfold M4 T5 aC5;split
 ·next b i h=>
  split at h
  ·next hc=>
   obtain⟨k,e,hk⟩:=ca9 hc.2;cases h;have hr:=U0 hc.1;simp only[e];exact⟨am0 hr hk,aj2 hr hw hk⟩
  ·cases h
 ·exact⟨by simp,by simp⟩
end
theorem bF8{α:Type}(P:α→Bool):∀l:List α,l.length=(l.filter P).length+(l.filter fun a=>!P a).length
 | []=>rfl
 | a::l=>by
  have:=bF8 P l;cases h:P a<;>simp[h]<;>omega
theorem ct0{p:Pg}{q:A7}{i:Nat}(hb:aL2 p q i)(hw:D1 p≤1000000)(hn:(p.procs[i]'hb.2.2).name=q):cF1 p q (G4 (p.procs[i]'hb.2.2).body 1 0 false) (aF8 p q) (ap2 p q):=by
 have hi:=hb.2.2;have hR:=hb.1;have hr:=U0 hR;have hm:=hr.may;obtain⟨x,pt⟩:=O8 hm hw i hi;have e1:aF8 p q=(y5 p).verts (i:Int):=by unfold aF8;rw[ac0 hb]
 have e2:ap2 p q=(y5 p).edges (i:Int):=by unfold ap2;rw[ac0 hb]
 have hvp:=G5 cE0 ((y5 p).vert0 (i:Int));have hvm:∀v,v∈(y5 p).verts (i:Int)↔v∈(y5 p).vert0 (i:Int):=fun v=>hvp.mem_iff;have hvn:((y5 p).verts (i:Int)).Nodup:=hvp.nodup_iff.2 (bN5 hr hw hi pt);have hq:((y5 p).s.fn (i:Int)).name=q:=by rw[Z8 hi,hn]
 obtain⟨n0,m0,hpf⟩:=aQ9 hm hi;have hims:(G4 (p.procs[i]'hb.2.2).body 1 0 false).map (·.s)=((b9 p).of i).map (·.s):=by
  obtain⟨x',_,hof⟩:=V7 p hw i hi;rw[hof];exact bj2 _ 12 _ _ 1 0 false _ _ _ _ _ (aE8 hpf).2.2.2 (by omega)
 have hitem:∀y∈G4 (p.procs[i]'hb.2.2).body 1 0 false,∃it∈(b9 p).of i,it.s=y.s:=fun y hy=>by
  have h1:y.s∈(G4 (p.procs[i]'hb.2.2).body 1 0 false).map (·.s):=dt7.2 ⟨y,hy,rfl⟩;rw[hims]at h1;exact dt7.1 h1
 have hst:∀it∈(b9 p).of i,al0 p it.s.id=it.s:=fun it hit=>cd5 hm (bB0 pt hit);have hslot:∀it∈(b9 p).of i,it.s.kind=4→(y5 p).slotsIn ((y5 p).s.pr it.s.proc)=T5 p it.s.proc∧(y5 p).slotsOut ((y5 p).s.pr it.s.proc)=M4 p it.s.proc∧(T5 p it.s.proc).Nodup∧(M4 p it.s.proc).Nodup∧I3∈M4 p it.s.proc:=fun it hit h4=>by
  obtain⟨c,hc⟩:=ad1 (hr.fits it (bB0 pt hit) h4);obtain⟨a1,a2⟩:=bO8 hR hc;have e:(y5 p).s.pr it.s.proc=(c:Int):=hc.pr;rw[e,a1,a2];exact⟨rfl,rfl,at0 hr hw hc.lt,ae0 hm hc.lt,by rw[bc0,cm1];simp⟩
 have hout:∀it∈(b9 p).of i,it.s.kind=4→(y5 p).callOut it.s=if it.s.name=e0 then(M4 p it.s.proc).filter (fun n=>!decide (n=I3))else M4 p it.s.proc:=fun it hit h4=>by
  unfold Bk.callOut;rw[(hslot it hit h4).2.1]
 have huniq:∀it∈(b9 p).of i,∀jt∈(b9 p).of i,it.s.id=jt.s.id→it=jt:=fun it hit jt hjt e=>by
  rw[←(cb4 hm (bB0 pt hit)).2.1,←(cb4 hm (bB0 pt hjt)).2.1,e]
 rw[e1,e2];refine⟨ci4 hr hw hi,aY1 hr hw hi,?_,fun v hv=>?_,fun y hy h4=>?_,fun y hy=>aW8 p _ hw,fun e he hk=>?_⟩
 ·have h1:=ds7 List.length hims;rw[dr9,dr9]at h1;have h2:=G9 hm;have:((b9 p).of i).length≤(b9 p).l.length:=by
   unfold Sh.of;rw[dy7,ds3];omega
  omega
 ·rcases aV6.1 ((hvm v).1 hv)with rfl|⟨n,hn,rfl⟩|⟨n,hn,rfl⟩|⟨it,hit,rfl|⟨h4,⟨n,hn,rfl⟩|⟨n,hn,rfl⟩⟩⟩
  ·exact⟨(fun h=>by cases h),(fun h=>by cases h)⟩
  ·exact⟨(fun h=>by cases h),(fun h=>by cases h)⟩
  ·exact⟨(fun h=>by cases h),(fun h=>by cases h)⟩
  ·exact⟨(fun h=>by cases h),(fun h=>by cases h)⟩
  ·refine⟨fun _=>?_,(fun h=>by cases h)⟩;simp only[hst it hit];exact⟨h4,(hslot it hit h4).1 ▸ hn⟩
  ·refine⟨(fun h=>by cases h),fun _=>?_⟩;simp only[hst it hit];rw[hout it hit h4]at hn;split at hn
   ·next hname=>
    rw[dv2]at hn;exact⟨h4,hn.1,fun e=>by rw[e]at hn;simp at hn⟩
   ·next hname=>exact⟨h4,hn,fun _=>hname⟩
 ·obtain⟨it,hit,e⟩:=hitem y hy;rw[←e]at h4 ⊢;obtain⟨s1,s2,s3,s4,s5⟩:=hslot it hit h4;constructor
  ·unfold ao8;have hl:(T5 p it.s.proc).length=((T5 p it.s.proc).map fun n=>(⟨q,5,it.s.id,n⟩:Vx)).length:=(dr9 _).symm;rw[hl];refine((List.perm_ext_iff_of_nodup (hvn.filter _) (ag2 (fun a b h=>by injection h) s3)).2 fun v=>?_).length_eq;rw[dv2,hvm,aV6,dt7,hq];constructor
   ·rintro⟨h,hk⟩;simp only[dt0,du7]at hk;rcases h with rfl|⟨n,hn,rfl⟩|⟨n,hn,rfl⟩|⟨jt,hjt,rfl|⟨h4',⟨n,hn,rfl⟩|⟨n,hn,rfl⟩⟩⟩
    ·cases hk.1
    ·cases hk.1
    ·cases hk.1
    ·cases hk.1
    ·obtain rfl:=huniq jt hjt it hit hk.2;exact⟨n,s1 ▸ hn,rfl⟩
    ·cases hk.1
   ·rintro⟨n,hn,rfl⟩;exact⟨.inr (.inr (.inr ⟨it,hit,.inr ⟨h4,.inl ⟨n,s1 ▸ hn,rfl⟩⟩⟩)),by simp⟩
  ·have hlen:ao8 ((y5 p).verts (i:Int)) 6 it.s.id=((y5 p).callOut it.s).length:=by
    unfold ao8;have hl:((y5 p).callOut it.s).length=(((y5 p).callOut it.s).map fun n=>(⟨q,6,it.s.id,n⟩:Vx)).length:=(dr9 _).symm;rw[hl];refine((List.perm_ext_iff_of_nodup (hvn.filter _) (ag2 (fun a b h=>by injection h) (aJ9 hr (bB0 pt hit) h4))).2 fun v=>?_).length_eq;rw[dv2,hvm,aV6,dt7,hq];constructor
    ·rintro⟨h,hk⟩;simp only[dt0,du7]at hk;rcases h with rfl|⟨n,hn,rfl⟩|⟨n,hn,rfl⟩|⟨jt,hjt,rfl|⟨h4',⟨n,hn,rfl⟩|⟨n,hn,rfl⟩⟩⟩
     ·cases hk.1
     ·cases hk.1
     ·cases hk.1
     ·cases hk.1
     ·cases hk.1
     ·obtain rfl:=huniq jt hjt it hit hk.2;exact⟨n,hn,rfl⟩
    ·rintro⟨n,hn,rfl⟩;exact⟨.inr (.inr (.inr ⟨it,hit,.inr ⟨h4,.inr ⟨n,hn,rfl⟩⟩⟩)),by simp⟩
   rw[hlen,hout it hit h4];unfold ba6;split
   ·next hname=>
    have h1:(M4 p it.s.proc).length=((M4 p it.s.proc).filter fun n=>!decide (n=I3)).length+1:=by
     have hp:=bF8 (fun n=>!decide (n=I3)) (M4 p it.s.proc);have h2:((M4 p it.s.proc).filter fun n=>!(!decide (n=I3))).length=1:=by
      have:((M4 p it.s.proc).filter fun n=>!(!decide (n=I3))).Perm [I3]:=(List.perm_ext_iff_of_nodup (s4.filter _) (by simp)).2 fun n=>by
       rw[dv2,dt8];simp only[Bool.not_not,du7];exact⟨fun h=>h.2,fun h=>⟨h ▸ s5,h⟩⟩
      exact this.length_eq
     omega
    omega
   ·next hname=>omega
 ·have hed:=cm0.1 he;unfold Bk.edge0 at hed;rw[Z8 hi,T9 hi,hn]at hed;simp only[ds4,dt7,dw1,or_assoc]at hed;rcases hed with⟨d,_,rfl⟩|⟨v,hv,h⟩|⟨f,hf,v,hv,rfl⟩
  ·cases hk
  ·unfold G2 at h;split at h
   ·rw[dt8]at h;rw[h]at hk;cases hk
   ·split at h
    ·rw[dt8]at h;rw[h]at hk;cases hk
    ·cases h
  ·obtain⟨p1,p2⟩:=aD5 hr hw hi hf;simp only;have g1:((y5 p).giver q f.src f.var).kind=2∧((y5 p).giver q f.src f.var).id=f.src∧aa0 p f.src=false∨((y5 p).giver q f.src f.var).kind=3∨((y5 p).giver q f.src f.var).kind=6:=by
    unfold Bk.giver;split
    ·exact .inr (.inl rfl)
    ·next h0=>
     split
     ·next h4=>
      refine .inl ⟨rfl,rfl,?_⟩;rw[dB2,ne_eq,bk9 hm (p1.imp id .inr)];exact fun h=>h4 h.2.2
     ·split
      ·exact .inr (.inr rfl)
      ·split<;>exact .inr (.inr rfl)
   have g2:v.kind=2∧v.id=f.dst∧aa0 p f.dst=false∨v.kind=4∨v.kind=5:=by
    unfold Bk.takers at hv;split at hv
    ·rw[dt8]at hv;exact .inr (.inl (by rw[hv]))
    ·next h0=>
     split at hv
     ·next h4=>
      rw[dt8]at hv;refine .inl ⟨by rw[hv],by rw[hv],?_⟩;rw[dB2,ne_eq,bk9 hm (.inr p2)];exact fun h=>h4 h.2.2
     ·rw[ds4]at hv;rcases hv with hv|hv
      ·obtain⟨z,_,rfl⟩:=dt7.1 hv;exact .inr (.inr rfl)
      ·split at hv
       ·rw[dt8]at hv;exact .inr (.inr (by rw[hv]))
       ·cases hv
   refine⟨fun h=>?_,fun h=>?_,?_,?_⟩
   ·rcases g1 with⟨_,e,h2⟩|h2|h2
    ·rw[e];exact h2
    ·omega
    ·omega
   ·rcases g2 with⟨_,e,h2⟩|h2|h2
    ·rw[e];exact h2
    ·omega
    ·omega
   ·rcases g1 with⟨h2,_⟩|h2|h2<;>omega
   ·rcases g2 with⟨h2,_⟩|h2|h2<;>omega
theorem aZ1(v:Value)(l:List Vx)(kd id:Int)(w:World)(hv:R (i4 w) v l)(hl:l.length≤1000000000):
  p7 prog 22 #[v,.int .i64 kd,.int .i64 id] w fun u w'=>(u = .int .i64 (ao8 l kd id)∧o7 w w'):=by
 refine p8 [v,.int .i64 kd,.int .i64 id] func22 rfl ?_;have hS:=hv.isS;have hn:=hv.vlen;simp only[i5,n8,simprocAttr,hS,hn];refine n9 [1,2,10,11] (σ:=Nat) (fun k f w'=>f 12 = .int .i64 k∧f 7 = .int .i64 (ao8 (l.take k) kd id)∧k≤l.length∧o7 w w') (fun k=>l.length-k) 0 ?_ ?_
 ·simp only[p6,simprocAttr];exact⟨by trivial,by trivial,dr8 _,t8.refl _⟩
 rintro k f w2 hk ⟨h12,h7,hkl,hx2⟩;simp only[dq9,p6,simprocAttr]at hk;obtain⟨e1,e2,e10,e11,_⟩:=hk;simp only[i5,n8,simprocAttr,h12,e11];refine m8 (fun hc=>?_) (fun hc=>?_);rotate_left
 ·have hkL:k=l.length:=by simp at hc;omega
  rw[hkL,ds2]at h7;simp only[i5,simprocAttr,h7];refine o6 results22 ?_;simp only[p6,simprocAttr];exact⟨by trivial,hx2⟩
 have hlt:k<l.length:=by simpa using hc
 have hin:=hv.inS hlt;obtain⟨sv,hsv,hld⟩:=E4 (P:=prog) (t:=36) hv (b7 hx2) (dq7 hlt) aF4 aF7 aB2 W5;rw[W5]at hld;have htk:ao8 (l.take (k+1)) kd id=ao8 (l.take k) kd id+if decide (l[k].kind=kd)&&decide (l[k].id=id)then 1 else 0:=by
  unfold ao8;rw[bz9 _ hlt,dr1];cases decide (l[k].kind=kd)&&decide (l[k].id=id)<;>rfl
 have hcl:ao8 (l.take k) kd id≤1000000000:=by
  unfold ao8;exact dr7 (dt9 _ _) (by rw[ds3];omega)
 generalize l[k]=x at hsv htk;generalize ao8 (l.take k) kd id=m at h7 htk hcl;obtain⟨d,wz,w3,hal,hst,hx3,hat⟩:=bf1 (hsv.mono (b7 hx2)) (d7 _);have t3:=hat.vx.1 w3 (d7 _);have hx23:=hx2.trans hx3;rcases dq8 (decide (x.kind=kd))with h1|h1;rotate_left
 ·simp only[h1,Bool.false_and,dx4,dy5,Nat.add_zero]at htk;simp only[i5,n8,z6,simprocAttr,h12,h7,e10,e1,hin,hld,hal,hst,t3,h1];exact⟨k+1,by omega,by rw[A8 k (by omega)],by rw[htk],by omega,hx23⟩
 rcases dq8 (decide (x.id=id))with h2|h2;rotate_left
 ·simp only[h1,h2,dy1,dx4,dy5,Nat.add_zero]at htk;simp only[i5,n8,z6,simprocAttr,h12,h7,e10,e1,e2,hin,hld,hal,hst,t3,h1,h2];exact⟨k+1,by omega,by rw[A8 k (by omega)],by rw[htk],by omega,hx23⟩
 ·simp only[h1,h2,dy1,dx1]at htk;simp only[i5,n8,z6,simprocAttr,h12,h7,e10,e1,e2,hin,hld,hal,hst,t3,h1,h2];exact⟨k+1,by omega,by rw[A8 k (by omega)],by rw[htk,A8 m (by omega)],by omega,hx23⟩
def J8(n:Nat):Int:=((min n 20001:Nat):Int)
theorem cG5(n:Nat):0≤J8 n∧J8 n≤20001:=by unfold J8;omega
theorem ao6{n:Nat}(h:J8 n≤20000):J8 n=(n:Int)∧n≤20000:=by unfold J8 at *;omega
theorem af1{n m:Nat}(h:¬J8 n≤20000)(hm:n≤m):J8 m=20001∧J8 n=20001:=by unfold J8 at *;omega
def F0{α:Type}(f:α→Nat)(l:List α):Nat:=(l.map f).sum
section
variable {α:Type} {f:α→Nat}
theorem ag8{l:List α}{k:Nat}(hk:k<l.length):F0 f (l.take (k+1))=F0 f (l.take k)+f l[k]:=by
 unfold F0;rw[dr6 hk,du1,List.sum_append];simp only[dv6,List.map_nil,dB6,List.sum_nil];omega
theorem aw0(l:List α)(k:Nat):F0 f (l.take k)≤F0 f l:=by
 unfold F0
 conv=>rhs;rw[←dv5 k l]
 rw[du1,List.sum_append];omega
theorem ag7(h:∀x,1≤f x):∀(l:List α),l.length≤F0 f l
 | []=>by simp
 | x::l=>by
  have:=ag7 h l;have:=h x;unfold F0 at *;simp only[dv6,dB6,dt2];omega
end
theorem bN8:∀l:List A7,aw2 l=F0 wtT l
 | []=>rfl
 | s::l=>by rw[aw2,bN8 l];rfl
theorem bx7:∀l:List Ex,ar3 l=F0 S6 l
 | []=>rfl
 | s::l=>by rw[ar3,bx7 l];rfl
theorem bx5:∀l:List Ar,Z6 l=F0 ak3 l
 | []=>rfl
 | s::l=>by rw[Z6,bx5 l];rfl
theorem aY4:∀l:List St,G3 l=F0 O6 l
 | []=>rfl
 | s::l=>by rw[G3,aY4 l];rfl
theorem bx8:∀l:List Pa,bo6 l=F0 (fun a=>wtT a.name) l
 | []=>rfl
 | s::l=>by rw[bo6,bx8 l];rfl
theorem bx9:∀l:List Pr,aB3 l=F0 U2 l
 | []=>rfl
 | s::l=>by rw[aB3,bx9 l];rfl
theorem aJ0(s:A7):1≤wtT s:=by unfold wtT;omega
theorem cE1(a:Ar):1≤ak3 a:=by unfold ak3;have:=aJ0 a.name;omega
theorem cE2(f:Pr):1≤U2 f:=by unfold U2;have:=aJ0 f.name;omega
theorem R1(s:A7)(n:Nat)(w:World):p7 prog 33 #[o9 s,.int .i64 (J8 n)] w fun u w'=>(u = .int .i64 (J8 (n+wtT s))∧w'=w):=by
 refine p8 [o9 s,.int .i64 (J8 n)] func33 rfl ?_;have hls:P9 prog 9 (o9 s)=some (.int .i64 (s.b.length:Nat)):=cZ9 (by kernel_rfl) (by kernel_rfl);have hr:=cG5 n;have hw:wtT s=1+s.b.length:=rfl;rcases dq8 (decide (20000<J8 n))with h1|h1
 ·have h1':=dr0 h1;simp only[i5,n8,simprocAttr,h1];refine o6 results33 ?_;simp only[p6,simprocAttr];exact⟨by rw[(af1 (by omega) (by omega:n≤n+wtT s)).1],by trivial⟩
 have h1':=dr2 h1;obtain⟨e1,hn⟩:=ao6 (n:=n) (by omega);have hw1:IntKind.i64.wrap (20000-J8 n)=20000-J8 n:=K6 _ (by omega);generalize hL:((s.b.length:Nat):Int)=L at hls;rcases dq8 (decide (20000-J8 n≤L))with h2|h2
 ·have h2':=dr0 h2;simp only[i5,n8,simprocAttr,h1,hls,hw1,h2];refine o6 results33 ?_;simp only[p6,simprocAttr];have:J8 (n+wtT s)=20001:=by unfold J8 at *;omega
  exact⟨by rw[this],by trivial⟩
 have h2':=dr2 h2;have hw2:IntKind.i64.wrap (J8 n+1)=J8 n+1:=K6 _ (by omega);have hw3:IntKind.i64.wrap (J8 n+1+L)=J8 n+1+L:=K6 _ (by omega);simp only[i5,n8,simprocAttr,h1,hls,hw1,h2,hw2,hw3];refine o6 results33 ?_;simp only[p6,simprocAttr];have:J8 (n+wtT s)=J8 n+1+L:=by unfold J8 at *;omega
 exact⟨by rw[this],by trivial⟩
theorem ae6(v:Value)(l:List A7)(n:Nat)(w:World)(hv:R (i4 w) v l):p7 prog 32 #[v,.int .i64 (J8 n)] w fun u w'=>(u = .int .i64 (J8 (n+aw2 l))∧w'=w):=by
 refine p8 [v,.int .i64 (J8 n)] func32 rfl ?_;have hS:=hv.isS;have hn:=hv.vlen;rw[bN8];simp only[i5,n8,simprocAttr];refine n9 [0] (σ:=Nat) (fun i f w'=>f 5 = .int .i64 i∧f 1 = .int .i64 (J8 (n+F0 wtT (l.take i)))∧i≤l.length∧w'=w) (fun i=>l.length-i) 0 ?_ ?_
 ·simp only[p6,simprocAttr];exact⟨by trivial,by simp[F0],dr8 _,by trivial⟩
 rintro i f w2 hk ⟨h5,h1,hil,rfl⟩;simp only[dq9,p6,simprocAttr]at hk;obtain⟨e0,_⟩:=hk;rcases dq8 (decide ((i:Int)<(l.length:Int)))with hc|hc;rotate_left
 ·have hge:i=l.length:=by have:=dr2 hc;omega
  subst hge;rw[ds2]at h1;simp only[i5,n8,simprocAttr,h5,e0,hS,hn,hc,h1];refine o6 results32 ?_;simp only[p6,simprocAttr];exact⟨by trivial,by trivial⟩
 have hlt:i<l.length:=by have:=dr0 hc;omega
 have hle1:=aw0 (f:=wtT) l i;have hin:=hv.inS hlt;have hld:=ldS hv (d7 _) hlt;have htk:=ag8 (f:=wtT) hlt;have hsl:=ag7 aJ0 (l.take i);rw[ds3]at hsl;generalize l[i]=s at hld htk;generalize F0 wtT (l.take i)=S at h1 htk hle1 hsl;rcases dq8 (decide (J8 (n+S)≤20000))with h2|h2;rotate_left
 ·have h2':=dr2 h2;have e:=af1 (m:=n+F0 wtT l) h2' (by omega);simp only[i5,n8,simprocAttr,h5,e0,hS,hn,hc,h1,h2];refine o6 results32 ?_;simp only[p6,simprocAttr];exact⟨by rw[e.1,e.2],by trivial⟩
 obtain⟨_,hlow⟩:=ao6 (dr0 h2);simp only[i5,n8,z6,simprocAttr,h5,e0,hS,hn,hc,h1,h2,hin,hld];refine C7 (R1 s (n+S) _) ?_;simp only[i5,n8,simprocAttr,h5];exact⟨i+1,by omega,by rw[A8 i (by omega)],by rw[htk,←dA5],by omega,by trivial⟩
theorem aK8:∀(m:Nat) (x:Ex) (v:Value) (n:Nat) (w:World),S6 x≤m→SV (i4 w) v x →
  p7 prog 52 #[v,.int .i64 (J8 n)] w fun u w'=>(u = .int .i64 (J8 (n+S6 x))∧o7 w w'):=by
 intro m
 induction m using Nat.strongRecOn with
 | ind m ih=>
 intro x v n w hsm hv;refine p8 [v,.int .i64 (J8 n)] func52 rfl ?_;have hwx:=bD3 x;rw[bx7]at hwx;have hkm:∀y∈x.kids,S6 y<S6 x:=fun y hy=>by
  have h1:=aY3 hy;have h2:=bD3 x;have h3:=aJ0 x.name;omega
 rw[hwx];obtain⟨a,w1,hbx,hx1,hat⟩:=ah4 hv (d7 _);obtain⟨vk,hk0,ld,_⟩:=hat.ex;have hSk:=hk0.isS;have hnk:=hk0.vlen;have l1:=ld w1 (d7 _);simp only[i5,n8,simprocAttr,hbx,l1];refine C7 (R1 x.name n w1) ?_;generalize hN:n+wtT x.name=N;rw[show n+(wtT x.name+F0 S6 x.kids)=N+F0 S6 x.kids by omega];generalize x.kids=l at hk0 hnk hkm;simp only[i5,simprocAttr];refine n9 [2] (σ:=Nat) (fun i f w'=>f 5 = .int .i64 i∧f 1 = .int .i64 (J8 (N+F0 S6 (l.take i)))∧i≤l.length∧o7 w1 w') (fun i=>l.length-i) 0 ?_ ?_
 ·simp only[p6,simprocAttr];exact⟨by trivial,by simp[F0],dr8 _,t8.refl _⟩
 rintro i f w2 hk ⟨h5,h1,hil,hx2⟩;simp only[dq9,p6,simprocAttr]at hk;obtain⟨e2,_⟩:=hk;have l2:=ld w2 (b7 hx2);rcases dq8 (decide ((i:Int)<(l.length:Int)))with hc|hc;rotate_left
 ·have hge:i=l.length:=by have:=dr2 hc;omega
  subst hge;rw[ds2]at h1;simp only[i5,n8,simprocAttr,h5,e2,l2,hSk,hnk,hc,h1];refine o6 results52 ?_;simp only[p6,simprocAttr];exact⟨by trivial,hx1.trans hx2⟩
 have hlt:i<l.length:=by have:=dr0 hc;omega
 have hle1:=aw0 (f:=S6) l i;have htk:=ag8 (f:=S6) hlt;have hsl:=ag7 aG0 (l.take i);rw[ds3]at hsl;have hin:=hk0.inS hlt;obtain⟨sv,hsv,hld⟩:=E4 (P:=prog) (t:=41) hk0 (b7 hx2) (dq7 hlt) bc6 bc9 aS6 ae4;rw[ae4]at hld;have hkl:=hkm _ (dr5 hlt);generalize l[i]=y at hsv htk hkl;generalize F0 S6 (l.take i)=S at h1 htk hle1 hsl;rcases dq8 (decide (J8 (N+S)≤20000))with h2|h2;rotate_left
 ·have h2':=dr2 h2;have e:=af1 (m:=N+F0 S6 l) h2' (by omega);simp only[i5,n8,simprocAttr,h5,e2,l2,hSk,hnk,hc,h1,h2];refine o6 results52 ?_;simp only[p6,simprocAttr];exact⟨by rw[e.1,e.2],hx1.trans hx2⟩
 obtain⟨_,hlow⟩:=ao6 (dr0 h2);simp only[i5,n8,z6,simprocAttr,h5,e2,l2,hSk,hnk,hc,h1,h2,hin,hld];refine B2 (ih (S6 y) (by omega) y sv (N+S) w2 (ds5 _) (hsv.mono (b7 hx2))) (fun w3 hx3=>?_);simp only[i5,n8,simprocAttr,h5];exact⟨i+1,by omega,by rw[A8 i (by omega)],by rw[htk,←dA5],by omega,hx2.trans hx3⟩
theorem aF9:∀(m:Nat) (l:List St) (v:Value) (n:Nat) (w:World),G3 l≤m→R (i4 w) v l →
  p7 prog 34 #[v,.int .i64 (J8 n)] w fun u w'=>(u = .int .i64 (J8 (n+G3 l))∧o7 w w'):=by
 intro m
 induction m using Nat.strongRecOn with
 | ind m ih=>
 intro l v n w hsm hv;refine p8 [v,.int .i64 (J8 n)] func34 rfl ?_;have hsub:∀t∈l,G3 t.thn<G3 l∧G3 t.els<G3 l:=fun t ht=>by
  have h1:=ah2 ht;have h2:=P2 t;have h3:=aJ0 t.name;omega
 have hS:=hv.isS;have hn:=hv.vlen;rw[aY4]at hsm ⊢;rw[aY4 l]at hsub;simp only[i5,n8,simprocAttr];refine n9 [0] (σ:=Nat) (fun i f w'=>f 5 = .int .i64 i∧f 1 = .int .i64 (J8 (n+F0 O6 (l.take i)))∧i≤l.length∧o7 w w') (fun i=>l.length-i) 0 ?_ ?_
 ·simp only[p6,simprocAttr];exact⟨by trivial,by simp[F0],dr8 _,t8.refl _⟩
 rintro i f w2 hk ⟨h5,h1,hil,hx2⟩;simp only[dq9,p6,simprocAttr]at hk;obtain⟨e0,_⟩:=hk;rcases dq8 (decide ((i:Int)<(l.length:Int)))with hc|hc;rotate_left
 ·have hge:i=l.length:=by have:=dr2 hc;omega
  subst hge;rw[ds2]at h1;simp only[i5,n8,simprocAttr,h5,e0,hS,hn,hc,h1];refine o6 results34 ?_;simp only[p6,simprocAttr];exact⟨by trivial,hx2⟩
 have hlt:i<l.length:=by have:=dr0 hc;omega
 have hle1:=aw0 (f:=O6) l i;have htk:=ag8 (f:=O6) hlt;have hsl:=ag7 (f:=O6) (fun t=>by have:=bN7 t;omega) (l.take i);rw[ds3]at hsl;have hin:=hv.inS hlt;obtain⟨sv,hsv,hld⟩:=E4 (P:=prog) (t:=45) hv (b7 hx2) (dq7 hlt) bc7 bd0 aK7 Y1;rw[Y1]at hld;obtain⟨hs1,hs2⟩:=hsub _ (dr5 hlt);generalize l[i]=t at hsv htk hs1 hs2;generalize F0 O6 (l.take i)=S at h1 htk hle1 hsl;rcases dq8 (decide (J8 (n+S)≤20000))with h2|h2;rotate_left
 ·have h2':=dr2 h2;have e:=af1 (m:=n+F0 O6 l) h2' (by omega);simp only[i5,n8,simprocAttr,h5,e0,hS,hn,hc,h1,h2];refine o6 results34 ?_;simp only[p6,simprocAttr];exact⟨by rw[e.1,e.2],hx2⟩
 obtain⟨_,hlow⟩:=ao6 (dr0 h2);obtain⟨d,wz,w3,hal,hst,hx3,hat⟩:=aI7 (hsv.mono (b7 hx2)) (d7 _);have hx23:=hx2.trans hx3;obtain⟨vl,va,vt,ve,hl',hra,hth,hel,hatx,ldd,sdd⟩:=hat.st;obtain⟨sx,hsx,_,sdx⟩:=hatx.ex_v;have hwt:=P2 t;have t1:=sdd (fun w'=>o7 w3.drew w') w3.drew (t8.refl _) fun w' h=>b7 ((o7.drew w3).trans h);have t2:=sdx (fun w'=>o7 w3.drew w') w3.drew (t8.refl _) fun w' h=>b7 ((o7.drew w3).trans h);simp only[i5,n8,z6,simprocAttr,h5,e0,hS,hn,hc,h1,h2,hin,hld,hal,hst];refine C0 (fun w'=>o7 w3.drew w') 14 (A9 [0,1,2,3,4,5,6,7,8,9,10,11,12,13]) ?_;simp only[D2,A9,i5,n8,simprocAttr,t1,t2,h1];refine B2 (aK8 (S6 t.x) t.x sx (n+S) w3.drew (ds5 _) (hsx.mono (b7 (o7.drew w3)))) (fun w4 hx4=>⟨hx4,?_⟩);simp only[D2,i5,simprocAttr];refine C7 (ae6 vl t.labels (n+S+S6 t.x) w4 (A3.mono (b7 ((o7.drew w3).trans hx4)) hl')) ⟨hx4,?_⟩;simp only[D2,i5,simprocAttr];refine C7 (R1 t.name (n+S+S6 t.x+aw2 t.labels) w4) ⟨hx4,?_⟩;simp only[D2,i5,simprocAttr];refine C7 (R1 t.proc (n+S+S6 t.x+aw2 t.labels+wtT t.name) w4) ⟨hx4,?_⟩;generalize hB:n+S+S6 t.x+aw2 t.labels+wtT t.name+wtT t.proc=B;have hx34:=(o7.drew w3).trans hx4;have hSa:=hra.isS;have hna:=hra.vlen;have hB2:n+F0 O6 (l.take (i+1))=B+F0 ak3 t.args+G3 t.thn+G3 t.els:=by rw[htk,hwt,←bx5,←hB];omega
 generalize t.args=ags at hra hna hB2;simp only[D2,i5,simprocAttr];refine n9 [0,5,6] (σ:=Nat) (fun k f' w'=>f' 7 = .int .i64 k∧f' 1 = .int .i64 (J8 (B+F0 ak3 (ags.take k)))∧k≤ags.length∧o7 w3 w') (fun k=>ags.length-k) 0 ?_ ?_
 ·simp only[p6,simprocAttr];exact⟨by trivial,by simp[F0],dr8 _,hx34⟩
 rintro k f2 w5 hk ⟨h7,h1',hkl,hx5⟩;simp only[dq9,p6,simprocAttr]at hk;obtain⟨g0,g5,g6,_⟩:=hk;rw[e0]at g0;have l5:=ldd w5 (b7 hx5);have hx25:=hx23.trans hx5;have hle2:=aw0 (f:=ak3) ags k;have hx5d:=hx5.trans (o7.drew w5);have t3:=sdd (fun w'=>o7 w5.drew w') w5.drew (t8.refl _) fun w' h=>b7 (hx5d.trans h);rcases dq8 (decide ((k:Int)<(ags.length:Int))&&decide (J8 (B+F0 ak3 (ags.take k))≤20000))with hg|hg;rotate_left
 ·have hend:J8 (B+F0 ak3 (ags.take k))=J8 (B+F0 ak3 ags):=by
   rcases dq8 (decide ((k:Int)<(ags.length:Int)))with h3|h3
   ·rw[h3,dy1]at hg;have e:=af1 (m:=B+F0 ak3 ags) (dr2 hg) (by omega);rw[e.1,e.2]
   ·have hge:k=ags.length:=by have:=dr2 h3;omega
    rw[hge,ds2]
  rw[hend]at h1';rcases dq8 (decide ((k:Int)<(ags.length:Int)))with h3|h3
  ·rw[h3,dy1,hend]at hg;simp only[i5,n8,simprocAttr,h7,g6,l5,hSa,hna,h3,hg,h1'];refine C0 (fun w'=>o7 w5.drew w') 8 (A9 [0,1,2,3,4,5,6,7]) ?_;simp only[D2,A9,i5,n8,simprocAttr,g6,t3,h1'];refine B2 (ih (G3 t.thn) (by omega) t.thn vt (B+F0 ak3 ags) w5.drew (ds5 _) (A3.mono (b7 hx5d) hth)) (fun w6 hx6=>⟨hx6,?_⟩);simp only[D2,i5,simprocAttr];refine B2 (ih (G3 t.els) (by omega) t.els ve (B+F0 ak3 ags+G3 t.thn) w6 (ds5 _) (A3.mono (b7 (hx5d.trans hx6)) hel)) (fun w7 hx7=>⟨hx6.trans hx7,?_⟩);simp only[D2,i5,simprocAttr];simp only[i5,n8,simprocAttr,g5,h5];exact⟨i+1,by omega,by rw[A8 i (by omega)],by rw[hB2],by omega,hx25.trans ((o7.drew w5).trans (hx6.trans hx7))⟩
  ·simp only[i5,n8,simprocAttr,h7,g6,l5,hSa,hna,h3];refine C0 (fun w'=>o7 w5.drew w') 8 (A9 [0,1,2,3,4,5,6,7]) ?_;simp only[D2,A9,i5,n8,simprocAttr,g6,t3,h1'];refine B2 (ih (G3 t.thn) (by omega) t.thn vt (B+F0 ak3 ags) w5.drew (ds5 _) (A3.mono (b7 hx5d) hth)) (fun w6 hx6=>⟨hx6,?_⟩);simp only[D2,i5,simprocAttr];refine B2 (ih (G3 t.els) (by omega) t.els ve (B+F0 ak3 ags+G3 t.thn) w6 (ds5 _) (A3.mono (b7 (hx5d.trans hx6)) hel)) (fun w7 hx7=>⟨hx6.trans hx7,?_⟩);simp only[D2,i5,simprocAttr];simp only[i5,n8,simprocAttr,g5,h5];exact⟨i+1,by omega,by rw[A8 i (by omega)],by rw[hB2],by omega,hx25.trans ((o7.drew w5).trans (hx6.trans hx7))⟩
 rw[dt0]at hg;have hlt2:k<ags.length:=by have:=dr0 hg.1;omega
 obtain⟨_,hlow2⟩:=ao6 (dr0 hg.2);have htk2:=ag8 (f:=ak3) hlt2;have hsl2:=ag7 cE1 (ags.take k);rw[ds3]at hsl2;have hina:=hra.inS hlt2;have hata:=hra.at_ (i:=k) (x:=ags[k]) (dq7 hlt2);have hz6:A3.sz Ar=6:=rfl;rw[hz6]at hata;obtain⟨hagx,_,sdg⟩:=hata.ar;obtain⟨sa,hsa,_,sda⟩:=hagx.ex_v;have t4:=sdg (fun w'=>o7 w5.drew w') w5.drew (t8.refl _) fun w' h=>b7 (hx5d.trans h);have t5:=sda (fun w'=>o7 w5.drew w') w5.drew (t8.refl _) fun w' h=>b7 (hx5d.trans h);generalize ags[k]=ag at htk2 hsa t4;generalize F0 ak3 (ags.take k)=S2 at h1' htk2 hlow2 hsl2 hg;have hg1:=hg.1;have hg2:=hg.2;simp only[i5,n8,simprocAttr,h7,g6,l5,hSa,hna,hg1,hg2,h1'];refine C0 (fun w'=>o7 w5.drew w') 16 (A9 [0,1,2,3,4,5,6,7,8,9,10,11,12,13,14,15]) ?_;simp only[D2,A9,i5,n8,z6,simprocAttr,g6,h7,t3,t4,t5,hina,h1'];refine B2 (aK8 (S6 ag.x) ag.x sa (B+S2) w5.drew (ds5 _) (hsa.mono (b7 hx5d))) (fun w6 hx6=>⟨hx6,?_⟩);simp only[D2,i5,simprocAttr];refine C7 (R1 ag.name (B+S2+S6 ag.x) w6) ⟨hx6,?_⟩;simp only[D2,i5,simprocAttr];simp only[i5,n8,simprocAttr,h7];exact⟨k+1,by omega,by rw[A8 k (by omega)],by rw[htk2];unfold ak3;rw[←dA5,←dA5],by omega,hx5.trans ((o7.drew w5).trans hx6)⟩
theorem cp2(v:Value)(p:Pg)(w:World)(hv:SV (i4 w) v p):p7 prog 8 #[v] w fun u w'=>(u = .bool (decide (D1 p≤20000))∧o7 w w'):=by
 refine p8 [v] func8 rfl ?_;obtain⟨c,w1,hbx,hx1,hatp⟩:=P7 hv (d7 _);obtain⟨vg,vp,hvg,hvp,ldp,_⟩:=hatp.pg;have l1:=ldp w1 (d7 _);have hSp:=hvp.isS;have hnp:=hvp.vlen;have hres:∀m:Nat,J8 m=J8 (D1 p)→decide (J8 m≤20000)=decide (D1 p≤20000):=fun m e=>by
  rw[e,dv1];unfold J8;omega
 have hwp:D1 p=aw2 p.globals+F0 U2 p.procs:=by unfold D1;rw[bx9]
 simp only[i5,n8,simprocAttr,hbx,l1];have h00:Value.int IntKind.i64 0 = .int .i64 (J8 0):=rfl;rw[h00];refine C7 (ae6 vg p.globals 0 w1 hvg) ?_;rw[du4];generalize aw2 p.globals=G at hwp;generalize p.procs=l at hvp hnp hwp;rw[hwp]at hres ⊢;simp only[i5,simprocAttr];refine n9 [1] (σ:=Nat) (fun i f w'=>f 4 = .int .i64 i∧f 3 = .int .i64 (J8 (G+F0 U2 (l.take i)))∧i≤l.length∧o7 w1 w') (fun i=>l.length-i) 0 ?_ ?_
 ·simp only[p6,simprocAttr];exact⟨by trivial,by simp[F0],dr8 _,t8.refl _⟩
 rintro i f w2 hk ⟨h4,h3,hil,hx2⟩;simp only[dq9,p6,simprocAttr]at hk;obtain⟨e1,_⟩:=hk;have l2:=ldp w2 (b7 hx2);rcases dq8 (decide ((i:Int)<(l.length:Int)))with hc|hc;rotate_left
 ·have hge:i=l.length:=by have:=dr2 hc;omega
  subst hge;rw[ds2]at h3;have hr:=hres _ rfl;simp only[i5,n8,simprocAttr,h4,e1,l2,hSp,hnp,hc,h3,hr];refine o6 results8 ?_;simp only[p6,simprocAttr];exact⟨by trivial,hx1.trans hx2⟩
 have hlt:i<l.length:=by have:=dr0 hc;omega
 have hle1:=aw0 (f:=U2) l i;have htk:=ag8 (f:=U2) hlt;have hsl:=ag7 cE2 (l.take i);rw[ds3]at hsl;rcases dq8 (decide (J8 (G+F0 U2 (l.take i))≤20000))with h2|h2;rotate_left
 ·have h2':=dr2 h2;have e:=af1 (m:=G+F0 U2 l) h2' (by omega);have hr:=hres _ (by rw[e.1,e.2]:J8 (G+F0 U2 (l.take i))=J8 (G+F0 U2 l));rw[hr]at h2;simp only[i5,n8,simprocAttr,h4,e1,l2,hSp,hnp,hc,h3,hr,h2];refine o6 results8 ?_;simp only[p6,simprocAttr];exact⟨by trivial,hx1.trans hx2⟩
 obtain⟨_,hlow⟩:=ao6 (dr0 h2);have hin:=hvp.inS hlt;obtain⟨sv,hsv,hld⟩:=E4 (P:=prog) (t:=51) hvp (b7 hx2) (dq7 hlt) ae2 ae5 ac8 I4;rw[I4]at hld;generalize l[i]=q at hsv htk;generalize F0 U2 (l.take i)=S at h3 htk hle1 hsl h2 hlow;obtain⟨d,wz,w3,hal,hst,hx3,hat⟩:=az8 (hsv.mono (b7 hx2)) (d7 _);have hx23:=hx2.trans hx3;obtain⟨vpa,vva,vbo,vfi,hpa,hva,hbo,hfi,ldr,sdr⟩:=hat.pr;have t1:=sdr (fun w'=>o7 w3.drew w') w3.drew (t8.refl _) fun w' h=>b7 ((o7.drew w3).trans h);simp only[i5,n8,z6,simprocAttr,h4,e1,l2,hSp,hnp,hc,h3,h2,hin,hld,hal,hst];refine C0 (fun w'=>o7 w3.drew w') 11 (A9 [0,1,2,3,4,5,6,7,8,9,10]) ?_;simp only[D2,A9,i5,n8,simprocAttr,t1,h3];refine C7 (R1 q.name (G+S) w3.drew) ⟨t8.refl _,?_⟩;simp only[D2,i5,simprocAttr];refine C7 (ae6 vva q.vars (G+S+wtT q.name) w3.drew (A3.mono (b7 (o7.drew w3)) hva)) ⟨t8.refl _,?_⟩;simp only[D2,i5,simprocAttr];refine C7 (ae6 vfi q.fin (G+S+wtT q.name+aw2 q.vars) w3.drew (A3.mono (b7 (o7.drew w3)) hfi)) ⟨t8.refl _,?_⟩;generalize hB:G+S+wtT q.name+aw2 q.vars+aw2 q.fin=B;have hB2:G+F0 U2 (l.take (i+1))=B+F0 (fun a:Pa=>wtT a.name) q.params+G3 q.body:=by
  rw[htk,←hB];unfold U2;rw[bx8];omega
 have hSa:=hpa.isS;have hna:=hpa.vlen;generalize q.params=pas at hpa hna hB2;simp only[D2,i5,simprocAttr];refine n9 [1,4,5] (σ:=Nat) (fun k f' w'=>f' 6 = .int .i64 k∧f' 3 = .int .i64 (J8 (B+F0 (fun a:Pa=>wtT a.name) (pas.take k)))∧k≤pas.length∧o7 w3 w') (fun k=>pas.length-k) 0 ?_ ?_
 ·simp only[p6,simprocAttr];exact⟨by trivial,by simp[F0],dr8 _,o7.drew w3⟩
 rintro k f2 w5 hk ⟨h6,h3',hkl,hx5⟩;simp only[dq9,p6,simprocAttr]at hk;obtain⟨g1,g4,g5,_⟩:=hk;rw[h4]at g4;have l5:=ldr w5 (b7 hx5);have hx25:=hx23.trans hx5;have hle2:=aw0 (f:=fun a:Pa=>wtT a.name) pas k;have hend:(decide ((k:Int)<(pas.length:Int))&&decide (J8 (B+F0 (fun a:Pa=>wtT a.name) (pas.take k))≤20000))=false→J8 (B+F0 (fun a:Pa=>wtT a.name) (pas.take k))=J8 (B+F0 (fun a:Pa=>wtT a.name) pas):=fun hg=>by
  rcases dq8 (decide ((k:Int)<(pas.length:Int)))with h|h
  ·rw[h,dy1]at hg;have e:=af1 (m:=B+F0 (fun a:Pa=>wtT a.name) pas) (dr2 hg) (by omega);rw[e.1,e.2]
  ·have hge:k=pas.length:=by have:=dr2 h;omega
   rw[hge,ds2]
 rcases dq8 (decide ((k:Int)<(pas.length:Int)))with h7|h7;rotate_left
 ·rw[hend (by rw[h7];rfl)]at h3';simp only[i5,n8,simprocAttr,h6,g5,l5,hSa,hna,h7,h3'];refine B2 (aF9 (G3 q.body) q.body vbo (B+F0 (fun a:Pa=>wtT a.name) pas) w5 (ds5 _) (A3.mono (b7 hx5) hbo)) (fun w6 hx6=>?_);simp only[i5,n8,simprocAttr,g4];exact⟨i+1,by omega,by rw[A8 i (by omega)],by rw[hB2],by omega,hx25.trans hx6⟩
 rcases dq8 (decide (J8 (B+F0 (fun a:Pa=>wtT a.name) (pas.take k))≤20000))with h8|h8;rotate_left
 ·have he:=hend (by rw[h7,h8];rfl);rw[he]at h3' h8;simp only[i5,n8,simprocAttr,h6,g5,l5,hSa,hna,h7,h8,h3'];refine B2 (aF9 (G3 q.body) q.body vbo (B+F0 (fun a:Pa=>wtT a.name) pas) w5 (ds5 _) (A3.mono (b7 hx5) hbo)) (fun w6 hx6=>?_);simp only[i5,n8,simprocAttr,g4];exact⟨i+1,by omega,by rw[A8 i (by omega)],by rw[hB2],by omega,hx25.trans hx6⟩
 have hlt2:k<pas.length:=by have:=dr0 h7;omega
 obtain⟨_,hlow2⟩:=ao6 (dr0 h8);have htk2:=ag8 (f:=fun a:Pa=>wtT a.name) hlt2;have hsl2:=ag7 (f:=fun a:Pa=>wtT a.name) (fun a=>aJ0 _) (pas.take k);rw[ds3]at hsl2;have hina:=hpa.inS hlt2;have hata:=hpa.at_ (i:=k) (x:=pas[k]) (dq7 hlt2);have hz2:A3.sz Pa=2:=rfl;rw[hz2]at hata;obtain⟨ldpa,_⟩:=hata.pa;have l6:=ldpa w5 (b7 hx5);generalize pas[k]=pa at htk2 l6;generalize F0 (fun a:Pa=>wtT a.name) (pas.take k)=S2 at h3' htk2 hlow2 hsl2 h8;simp only[i5,n8,z6,simprocAttr,h6,g5,l5,hSa,hna,h7,h8,h3',hina,l6];refine C7 (R1 pa.name (B+S2) w5) ?_;simp only[i5,n8,simprocAttr,h6];exact⟨k+1,by omega,by rw[A8 k (by omega)],by rw[htk2,←dA5],by omega,hx5⟩
def aZ6(n:Int):Ex:=.mk 1 n e0 []
def aa5(s:A7):Ex:=.mk 2 0 s []
def ca4(op:Int)(a b:Ex):Ex:=.mk op 0 e0 [a,b]
def sV:A7:=ofA #[118]
def sG:A7:=ofA #[103]
def sP:A7:=ofA #[112]
def sX:A7:=ofA #[120]
def sY:A7:=ofA #[121]
def sE:A7:=ofA #[101]
def bm8:Pr:=⟨R2,[],[sV],[.mk 1 1 [] sV e0 (aZ6 2) false [] [] [],.mk 2 4 [] sG sP (.mk 0 0 e0 []) false [⟨false,e0,aZ6 3⟩,⟨true,sV,.mk 0 0 e0 []⟩] [] [],
 .mk 3 3 [] e0 e0 (aa5 sV) false [] [] [],.mk 4 3 [] e0 e0 (aa5 sG) false [] [] []],[]⟩
def bm9:Pr:=⟨sP,[⟨sX,false⟩,⟨sY,true⟩],[],[.mk 5 1 [] sY e0 (ca4 8 (aa5 sY) (aa5 sX)) false [] [] [],
 .mk 6 5 [] e0 e0 (ca4 12 (aa5 sY) (aZ6 9)) false [] [.mk 7 10 [] sE e0 (.mk 0 0 e0 []) false [] [] []] [],.mk 8 9 [] e0 e0 (aa5 sY) true [] [] []],[sE]⟩
def aq9:Pg:=⟨[sG],[bm8,bm9]⟩
theorem bU8:T5 aq9 sP=[sX,sY]:=by decide +kernel
theorem bU7:M4 aq9 sP=[I3,sY]:=by decide +kernel
theorem bU9:(aF8 aq9 R2).length=11:=by decide +kernel
theorem cn8:(ap2 aq9 sP).contains ⟨⟨sP,2,5,e0⟩,⟨sP,4,0,sY⟩,2⟩=true:=by decide +kernel
theorem cz9{P:Program}{T:TypeId}{z:Value}(hz:G0 P T=some z)(hzs:z.cells.size=K1 P T)(hz1:∀u∈z.cells.toList,u.oneCell'=true)(ht:H6 P T=true)(hu:(P.underlying T).isSome=true)(hi:(P.info? T).isSome=true)(w:World):
  ∃w0,w.heap.size<w0.heap.size∧(Instr.alloc T true (.tuple #[])).run P w = .ok (.pointer (some ⟨w.heap.size,0,none⟩)) w0∧o7 w w0∧∀(w':World) (cs:Array Value),cs.size=K1 P T→(∀u∈cs.toList,u.oneCell'=true)→o7 w0 w' →
  ∃w'',(Instr.storeAt T (.pointer (some ⟨w.heap.size,0,none⟩)) (.agg cs)).run P w' = .ok () w''∧(Instr.loadAt T (.pointer (some ⟨w.heap.size,0,none⟩))).run P w'' = .ok (.agg cs) w''∧o7 w w''∧t8 (fun b=>b=w.heap.size) w' w'':=by
 have h1:=(aJ7 (P:=P) (w:=w) (T:=T) hz hzs (cs:=z.cells) hzs hz1).1;refine⟨_,by simp,h1,o7.alloc _ _,fun w' cs hcs hc1 hx=>?_⟩;have hb:w'.heap[w.heap.size]?=some (.cells z.cells T (0,0)):=(hx.block _ (by simp) id).trans (dv4 w _);obtain⟨w'',e1,e2,e3⟩:=Z7 (P:=P) (T:=T) hb hz hzs hcs hc1;exact⟨w'',e1,S9 e2 ht hu hi hcs.symm,t8.ext_of ((o7.alloc _ _).trans hx) e3 fun b hb=>by rw[hb];exact ds5 _,e3⟩
theorem cA0(w:World):∃w0,w.heap.size<w0.heap.size∧(Instr.alloc 41 true (.tuple #[])).run prog w = .ok (.pointer (some ⟨w.heap.size,0,none⟩)) w0∧o7 w w0∧∀(w':World) (cs:Array Value),cs.size=K1 prog 41→(∀u∈cs.toList,u.oneCell'=true)→o7 w0 w' →
  ∃w'',(Instr.storeAt 41 (.pointer (some ⟨w.heap.size,0,none⟩)) (.agg cs)).run prog w' = .ok () w''∧(Instr.loadAt 41 (.pointer (some ⟨w.heap.size,0,none⟩))).run prog w'' = .ok (.agg cs) w''∧o7 w w''∧t8 (fun b=>b=w.heap.size) w' w'':=
 cz9 cD4 (by rw[ae4];rfl) (by simp[Value.cells,Value.oneCell']) bc6 bc9 aS6 w
theorem R9{k:IntKind}{n:Int}:(Value.int k n).cells=#[.int k n]:=rfl
theorem aL4{b:Bool}:(Value.bool b).cells=#[.bool b]:=rfl
theorem S0{s:A7}:(o9 s).cells=#[o9 s]:=rfl
theorem au3{cs:Array Value}:(Value.agg cs).cells=cs:=rfl
theorem cV8:(Value.slice none 0 0).cells=#[.slice none 0 0]:=rfl
theorem Q6:Value.string ⟨#[]⟩=o9 e0:=rfl
theorem cq7(n:Int):B8 prog 41 [(0,.int .i64 1),(1,.int .i64 n)]=some (.agg #[.int .i64 1,.int .i64 n,o9 e0,.slice none 0 0]):=by
 simp[B8,cC1,J5,Instr.fill,R9,Q6]
theorem cq8(s:A7):B8 prog 41 [(0,.int .i64 2),(2,o9 s)]=some (.agg #[.int .i64 2,.int .i64 0,o9 s,.slice none 0 0]):=by
 simp[B8,cC1,J5,Instr.fill,R9,S0,Q6]
theorem cq9(op:Int)(vk:Value)(hk:vk.cells=#[vk]):B8 prog 41 [(0,.int .i64 op),(3,vk)]=some (.agg #[.int .i64 op,.int .i64 0,o9 e0,vk]):=by
 simp[B8,cC1,J5,Instr.fill,R9,Q6,hk]
theorem bA8(n:Int)(w:World):p7 prog 49 #[.int .i64 n] w fun u w'=>(u = .agg #[.int .i64 1,.int .i64 n,o9 e0,.slice none 0 0]∧o7 w w'):=by
 refine p8 [.int .i64 n] func49 rfl ?_;obtain⟨w0,_,hal,hx0,hend⟩:=cA0 w;obtain⟨w1,q1,q2,q3,_⟩:=hend w0 #[.int .i64 1,.int .i64 n,o9 e0,.slice none 0 0] (by rw[ae4];rfl) (by simp[o9,Value.oneCell']) (t8.refl _);have hb:=cq7 n;simp only[i5,n8,simprocAttr,hal,hb,q1];refine L6 results49 (ad:=⟨w.heap.size,0,none⟩) (by simp only[p6,simprocAttr]) q2 ?_;exact⟨rfl,q3⟩
theorem an3(s:A7)(w:World):p7 prog 50 #[o9 s] w fun u w'=>(u = .agg #[.int .i64 2,.int .i64 0,o9 s,.slice none 0 0]∧o7 w w'):=by
 refine p8 [o9 s] func50 rfl ?_;obtain⟨w0,_,hal,hx0,hend⟩:=cA0 w;obtain⟨w1,q1,q2,q3,_⟩:=hend w0 #[.int .i64 2,.int .i64 0,o9 s,.slice none 0 0] (by rw[ae4];rfl) (by simp[o9,Value.oneCell']) (t8.refl _);have hb:=cq8 s;simp only[i5,n8,simprocAttr,hal,hb,q1];refine L6 results50 (ad:=⟨w.heap.size,0,none⟩) (by simp only[p6,simprocAttr]) q2 ?_;exact⟨rfl,q3⟩
section
variable {h:Hp}
theorem as7{op n:Int}{name:A7}{vk:Value}{kids:List Ex}(hk:R h vk kids):SV h (.agg #[.int .i64 op,.int .i64 n,o9 name,vk]) (Ex.mk op n name kids):=⟨_,rfl,bh4.2 ⟨vk,rfl,hk⟩⟩
theorem cP5{r:Bool}{name:A7}{c1 c2 c3 c4:Value}{x:Ex}(hx:SV h (.agg #[c1,c2,c3,c4]) x):SV h (.agg #[.bool r,o9 name,c1,c2,c3,c4]) (⟨r,name,x⟩:Ar):=⟨_,rfl,[c1,c2,c3,c4],rfl,hx.enc⟩
theorem bc4{id kind:Int}{vl:Value}{labels:List A7}{name proc:A7}{c1 c2 c3 c4:Value}{x:Ex}{has:Bool}{va vt ve:Value}{args:List Ar}{thn els:List St}
  (hl:R h vl labels) (hx:SV h (.agg #[c1,c2,c3,c4]) x) (ha:R h va args) (ht:R h vt thn) (he:R h ve els) :
  SV h (.agg #[.int .i64 id,.int .i64 kind,vl,o9 name,o9 proc,c1,c2,c3,c4,.bool has,va,vt,ve]) (St.mk id kind labels name proc x has args thn els):=
 ⟨_,rfl,aU4.2 ⟨vl,[c1,c2,c3,c4],va,vt,ve,rfl,hl,hx.enc,ha,ht,he⟩⟩
theorem cP6{name:A7}{v1 v2 v3 v4:Value}{params:List Pa}{vars:List A7}{body:List St}{fin:List A7}(h1:R h v1 params)(h2:R h v2 vars)(h3:R h v3 body)(h4:R h v4 fin):
  SV h (.agg #[o9 name,v1,v2,v3,v4]) (⟨name,params,vars,body,fin⟩:Pr):=⟨_,rfl,v1,v2,v3,v4,rfl,h1,h2,h3,h4⟩
theorem dd8{v1 v2:Value}{globals:List A7}{procs:List Pr}(h1:R h v1 globals)(h2:R h v2 procs):SV h (.agg #[v1,v2]) (⟨globals,procs⟩:Pg):=⟨_,rfl,v1,v2,rfl,h1,h2⟩
theorem H7{α:Type}[A3 α]:R h (.slice none 0 0) ([]:List α):=⟨none,0,0,rfl,rfl,ds5 _,[],rfl,fun j v h=>by simp at h⟩
end
def bX5{α:Type}[A3 α](h:Hp):List Value→List α→Prop
 | [],[]=>True
 | x::xs,y::ys=>SV h x y∧bX5 h xs ys
 | _,_=>False
theorem bv3{α:Type}[A3 α]{h:Hp}:∀{xs:List Value} {ys:List α},bX5 h xs ys→N1 h (xs.flatMap (·.cells.toList)) ys∧(∀x∈xs,x.cells.size=A3.sz α)∧ys.length=xs.length
 | [],[],_=>⟨rfl,fun x hx=>(by cases hx),rfl⟩
 | x::xs,y::ys,⟨h1,h2⟩=>by
  obtain⟨i1,i2,i3⟩:=bv3 h2;refine⟨⟨x.cells.toList,_,by simp,h1.enc,i1⟩,fun z hz=>?_,by simp[i3]⟩;rcases dt1.1 hz with rfl|hz
  ·have:=A3.len h1.enc;simpa using this
  ·exact i2 z hz
theorem cO1{P:Program}{t T:TypeId}{sz by_:Nat}(hs:E7 P t T sz by_=true){α:Type}[A3 α](hsz:A3.sz α=sz){h:Hp}{w:World}{xs:List Value}{ys:List α}{parts:Array (Nat×Value)}{n:Nat}(hp:parts.toList=(xs.zipIdx 0).map fun p=>(p.2,p.1))
  (hxy:bX5 h xs ys) (hn:n=xs.length) (hne:xs≠[]) (hlt:xs.length≤16) (hw:B5 h (i4 w)) :
  ∃v w',(Instr.buildSlice t n parts).run P w = .ok v w'∧R (i4 w') v ys∧v.cells=#[v]∧o7 w w'∧B0 h w' T v ys∧∀b,A4 v b→w.heap.size≤b:=by
 obtain⟨h1,h2,h3⟩:=bv3 hxy;obtain⟨v,w',q1,q2,q3,q4⟩:=lit hs hp h1 (by rw[←hsz];exact h2) hn h3 hne hlt hw;exact⟨v,w',q1,q2.rw_ (p9 hw (b7 q3)),D8 q2.isS,q3,q2,q4⟩
theorem noE{N:Nat→Prop}{w w':World}(hx:o7 w w'):B5 (B7 w N) (B7 w' N):=G6 hx (fun _ h=>h.elim) fun b h=>.inl h
theorem cl3{P:Program}{t T:TypeId}{sz by_:Nat}(hs:E7 P t T sz by_=true){α:Type}[A3 α](hsz:A3.sz α=sz){N:Nat→Prop}{w:World}(hN:∀b,N b→b<w.heap.size){xs:List Value}{ys:List α}{parts:Array (Nat×Value)}{n:Nat}(hp:parts.toList=(xs.zipIdx 0).map fun p=>(p.2,p.1))
  (hxy:bX5 (B7 w N) xs ys) (hn:n=xs.length) (hne:xs≠[]) (hlt:xs.length≤16) :
  ∃v w',(Instr.buildSlice t n parts).run P w = .ok v w'∧R (B7 w' N) v ys∧v.cells=#[v]∧o7 w w'∧B0 (B7 w N) w' T v ys∧∀b,A4 v b→w.heap.size≤b:=by
 obtain⟨v,w',q1,_,q2,q3,q4,q5⟩:=cO1 hs hsz hp hxy hn hne hlt (B3 _ _);exact⟨v,w',q1,q4.ro (noE q3) fun b hb=>D3 fun h=>(by have:=hN b h;have:=q5 b hb;omega),q2,q3,q4,q5⟩
theorem cS6(s:A7){N:Nat→Prop}(w:World)(hN:∀b,N b→b<w.heap.size):∃v w',(Instr.buildSlice 22 1 #[(0,o9 s)]).run prog w = .ok v w'∧R (B7 w' N) v [s]∧v.cells=#[v]∧o7 w w':=by
 obtain⟨v,w',q1,q2,q3,q5⟩:=cb8 s w (B3 w N);exact⟨v,w',q1,q2.ro (noE q3) fun b hb=>D3 fun h=>(by have:=hN b h;have:=q5 b hb;omega),D8 q2.isS,q3⟩
theorem dc9:E7 prog 39 41 4 56=true:=by kernel_rfl
theorem dc7:E7 prog 42 101 6 80=true:=by kernel_rfl
theorem cA6:E7 prog 43 45 13 208=true:=by kernel_rfl
theorem dd3:E7 prog 49 68 2 24=true:=by kernel_rfl
theorem dd4:E7 prog 23 51 5 112=true:=by kernel_rfl
theorem bs1(id kind:Int)(n:A7)(c1 c2 c3 c4:Value):B8 prog 45 [(0,.int .i64 id),(1,.int .i64 kind),(3,o9 n),(5,.agg #[c1,c2,c3,c4])]=some (.agg #[.int .i64 id,.int .i64 kind,.slice none 0 0,o9 n,o9 e0,c1,c2,c3,c4,.bool false,.slice none 0 0,.slice none 0 0,.slice none 0 0]):=by
 simp[B8,bx0,J5,Instr.fill,R9,S0,au3,Q6]
theorem bs2(id kind:Int)(n q:A7)(va:Value)(hk:va.cells=#[va]):B8 prog 45 [(0,.int .i64 id),(1,.int .i64 kind),(3,o9 n),(4,o9 q),(7,va)]=some (.agg #[.int .i64 id,.int .i64 kind,.slice none 0 0,o9 n,o9 q,.int .i64 0,.int .i64 0,o9 e0,.slice none 0 0,.bool false,va,.slice none 0 0,.slice none 0 0]):=by
 simp[B8,bx0,J5,Instr.fill,R9,S0,Q6,hk]
theorem bs3(id kind:Int)(c1 c2 c3 c4:Value):B8 prog 45 [(0,.int .i64 id),(1,.int .i64 kind),(5,.agg #[c1,c2,c3,c4])]=some (.agg #[.int .i64 id,.int .i64 kind,.slice none 0 0,o9 e0,o9 e0,c1,c2,c3,c4,.bool false,.slice none 0 0,.slice none 0 0,.slice none 0 0]):=by
 simp[B8,bx0,J5,Instr.fill,R9,au3,Q6]
theorem bs4(id kind:Int)(n:A7):B8 prog 45 [(0,.int .i64 id),(1,.int .i64 kind),(3,o9 n)]=some (.agg #[.int .i64 id,.int .i64 kind,.slice none 0 0,o9 n,o9 e0,.int .i64 0,.int .i64 0,o9 e0,.slice none 0 0,.bool false,.slice none 0 0,.slice none 0 0,.slice none 0 0]):=by
 simp[B8,bx0,J5,Instr.fill,R9,S0,Q6]
theorem bs5(id kind:Int)(c1 c2 c3 c4 vt:Value)(hk:vt.cells=#[vt]):B8 prog 45 [(0,.int .i64 id),(1,.int .i64 kind),(5,.agg #[c1,c2,c3,c4]),(8,vt)]=some (.agg #[.int .i64 id,.int .i64 kind,.slice none 0 0,o9 e0,o9 e0,c1,c2,c3,c4,.bool false,.slice none 0 0,vt,.slice none 0 0]):=by
 simp[B8,bx0,J5,Instr.fill,R9,au3,Q6,hk]
theorem bs6(id kind:Int)(c1 c2 c3 c4:Value):B8 prog 45 [(0,.int .i64 id),(1,.int .i64 kind),(6,.bool true),(5,.agg #[c1,c2,c3,c4])]=some (.agg #[.int .i64 id,.int .i64 kind,.slice none 0 0,o9 e0,o9 e0,c1,c2,c3,c4,.bool true,.slice none 0 0,.slice none 0 0,.slice none 0 0]):=by
 simp[B8,bx0,J5,Instr.fill,R9,aL4,au3,Q6]
theorem ba1(c1 c2 c3 c4:Value):B8 prog 101 [(2,.agg #[c1,c2,c3,c4])]=some (.agg #[.bool false,o9 e0,c1,c2,c3,c4]):=by
 simp[B8,cB8,J5,Instr.fill,au3,Q6]
theorem ba2(n:A7):B8 prog 101 [(0,.bool true),(1,o9 n)]=some (.agg #[.bool true,o9 n,.int .i64 0,.int .i64 0,o9 e0,.slice none 0 0]):=by
 simp[B8,cB8,J5,Instr.fill,aL4,S0,Q6]
theorem bp1(n:A7)(v3 v4:Value)(hk:v3.cells=#[v3])(hk2:v4.cells=#[v4]):B8 prog 51 [(0,o9 n),(2,v3),(3,v4)]=some (.agg #[o9 n,.slice none 0 0,v3,v4,.slice none 0 0]):=by
 simp[B8,cP9,J5,Instr.fill,S0,Q6,hk,hk2]
theorem bp2(n:A7)(v2 v4 v5:Value)(hk:v2.cells=#[v2])(hk2:v4.cells=#[v4])(hk3:v5.cells=#[v5]):B8 prog 51 [(0,o9 n),(1,v2),(4,v5),(3,v4)]=some (.agg #[o9 n,v2,.slice none 0 0,v4,v5]):=by
 simp[B8,cP9,J5,Instr.fill,S0,Q6,hk,hk2,hk3]
theorem bq1(n:A7):B8 prog 68 [(0,o9 n)]=some (.agg #[o9 n,.bool false]):=by
 simp[B8,cC2,J5,Instr.fill,S0,Q6]
theorem bq2(n:A7):B8 prog 68 [(0,o9 n),(1,.bool true)]=some (.agg #[o9 n,.bool true]):=by
 simp[B8,cC2,J5,Instr.fill,aL4,S0,Q6]
theorem bg1(v1 v2:Value)(hk:v1.cells=#[v1])(hk2:v2.cells=#[v2]):B8 prog 25 [(0,v1),(1,v2)]=some (.agg #[v1,v2]):=by
 simp[B8,de3,J5,Instr.fill,hk,hk2]
theorem cd7{N:Nat→Prop}(op:Int)(a b:Ex)(a1 a2 a3 a4 b1 b2 b3 b4:Value)(w:World)(hN:∀b,N b→b<w.heap.size)(ha:SV (B7 w N) (.agg #[a1,a2,a3,a4]) a)(hb:SV (B7 w N) (.agg #[b1,b2,b3,b4]) b):
  p7 prog 51 #[.int .i64 op,.agg #[a1,a2,a3,a4],.agg #[b1,b2,b3,b4]] w fun u w'=>(∃vk,u = .agg #[.int .i64 op,.int .i64 0,o9 e0,vk]∧R (B7 w' N) vk [a,b]∧o7 w w'):=by
 refine aY8 (args:=[.int .i64 op,.agg #[a1,a2,a3,a4],.agg #[b1,b2,b3,b4]]) hm func51 rfl (by kernel_rfl) (by show 3≤_;decide +kernel) ?_;obtain⟨d1,w1,hb1,hx1,hat1⟩:=be3 (w:=w) (fun _=>False) ha (fun b h=>h.elim);obtain⟨d2,w2,hb2,hx2,hat2⟩:=be3 (w:=w1) (fun _=>False) (hb.mono (noE hx1)) (fun b h=>h.elim);obtain⟨w3,hgt,hal,hx3,hend⟩:=cA0 w2;have hx23:=hx2.trans hx3;have hno:∀{w w':World},o7 w w'→B5 (B7 w fun _=>False) (i4 w'):=fun{w w'} hx=>p9 (B3 _ _) (b7 hx);have l1:=(I2.ex_v ha hat1).1 w3 (hno hx23);have l2:=(I2.ex_v (hb.mono (noE hx1)) hat2).1 w3 (hno hx3);have hx02:=hx1.trans hx2;obtain⟨vk,w4,q1,_,q3,q4,q5,q6⟩:=cO1 (P:=prog) dc9 rfl (w:=w3) (h:=B7 w2 N) (xs:=[.agg #[a1,a2,a3,a4],.agg #[b1,b2,b3,b4]]) (ys:=[a,b]) (parts:=#[(0,.agg #[a1,a2,a3,a4]),(1,.agg #[b1,b2,b3,b4])]) (n:=2) rfl ⟨ha.mono (noE hx02),hb.mono (noE hx02),trivial⟩ rfl (by simp) (by simp) (p9 (B3 _ _) (b7 hx3));have h1c:=W9 q5.isS;obtain⟨w5,e1,e2,e3,e4⟩:=hend w4 #[.int .i64 op,.int .i64 0,o9 Go.Proofs.YtcbnbgpphippoaaGreat.e0,vk] (by rw[ae4];rfl) (fun u hu=>by
  simp only[dt1,dw3,dC5]at hu;rcases hu with rfl|rfl|rfl|rfl
  ·rfl
  ·rfl
  ·rfl
  ·exact h1c) q4
 have hbd:=cq9 op vk q3;simp only[i5,n8,simprocAttr,hb1,hb2,hal,l1,l2,q1,hbd,e1];refine L6 results51 (ad:=⟨w2.heap.size,0,none⟩) (by simp only[p6,simprocAttr]) e2 ?_;refine⟨vk,rfl,?_,(hx1.trans hx2).trans e3⟩;refine(q5.mod e4 fun b h1 h2=>(by have h3:=q6 b h1;omega)).ro (noE e3) fun b hb=>D3 fun h=>?_;have h3:=q6 b hb;have h4:=hN b h;have h5:=hx02.size;omega
theorem dc1(w:World):∃w0,w.heap.size<w0.heap.size∧(Instr.alloc 25 true (.tuple #[])).run prog w = .ok (.pointer (some ⟨w.heap.size,0,none⟩)) w0∧o7 w w0∧∀(w':World) (cs:Array Value),cs.size=K1 prog 25→(∀u∈cs.toList,u.oneCell'=true)→o7 w0 w' →
  ∃w'',(Instr.storeAt 25 (.pointer (some ⟨w.heap.size,0,none⟩)) (.agg cs)).run prog w' = .ok () w''∧(Instr.loadAt 25 (.pointer (some ⟨w.heap.size,0,none⟩))).run prog w'' = .ok (.agg cs) w''∧o7 w w''∧t8 (fun b=>b=w.heap.size) w' w'':=
 cz9 cQ2 (by rw[bN1];rfl) (by simp[Value.cells,Value.oneCell']) cB3 cC8 cB6 w
theorem dn8:Value.string ⟨#[118]⟩=o9 sV:=rfl
theorem dn7:Value.string ⟨#[103]⟩=o9 sG:=rfl
theorem dc3:Value.string ⟨#[112]⟩=o9 sP:=rfl
theorem dc4:Value.string ⟨#[120]⟩=o9 sX:=rfl
theorem dc5:Value.string ⟨#[121]⟩=o9 sY:=rfl
theorem dn6:Value.string ⟨#[101]⟩=o9 sE:=rfl
theorem cP0:Value.string ⟨#[109,97,105,110]⟩=o9 R2:=rfl
theorem cp8(w:World):p7 prog 30 #[] w fun u w'=>(SV (i4 w') u aq9∧o7 w w'):=by
 refine p8 [] func30 rfl ?_;obtain⟨w0,hgt,hal,hx0,hend⟩:=dc1 w;have hN:∀{w':World},o7 w0 w'→∀b,b=w.heap.size→b<w'.heap.size:=fun{w'} hx b hb=>by have:=hx.size;omega
 obtain⟨v1,w1,q1,r1,k1,x1⟩:=cS6 sV (N:=fun b=>b=w.heap.size) w0 (hN (t8.refl _));simp only[i5,simprocAttr,hal,dn8,dn7,dc3,dc4,dc5,dn6,cP0,q1];refine B2 (bA8 2 w1) (fun w2 x2=>?_);simp only[i5,simprocAttr,bs1];refine B2 (bA8 3 w2) (fun w3 x3=>?_);have y3:=(x1.trans x2).trans x3;obtain⟨v4,w4,q4,r4,k4,x4,_,_⟩:=cl3 (P:=prog) (α:=Ar) dc7 rfl (N:=fun b=>b=w.heap.size) (w:=w3) (hN y3) (xs:=[.agg #[.bool false,o9 e0,.int .i64 1,.int .i64 3,o9 e0,.slice none 0 0],.agg #[.bool true,o9 sV,.int .i64 0,.int .i64 0,o9 e0,.slice none 0 0]]) (ys:=[⟨false,e0,aZ6 3⟩,⟨true,sV,.mk 0 0 e0 []⟩]) (parts:=#[(0,.agg #[.bool false,o9 e0,.int .i64 1,.int .i64 3,o9 e0,.slice none 0 0]),(1,.agg #[.bool true,o9 sV,.int .i64 0,.int .i64 0,o9 e0,.slice none 0 0])]) (n:=2) rfl ⟨cP5 (as7 H7),cP5 (as7 H7),trivial⟩ rfl (by simp) (by simp);have y4:=y3.trans x4;simp only[i5,simprocAttr,ba1,ba2,q4,bs2 _ _ _ _ _ k4];refine B2 (an3 sV w4) (fun w5 x5=>?_);simp only[i5,simprocAttr,bs3];refine B2 (an3 sG w5) (fun w6 x6=>?_);have y6:=(y4.trans x5).trans x6;have r4':=A3.mono (noE (x5.trans x6)) r4;obtain⟨v7,w7,q7,r7,k7,x7,_,_⟩:=cl3 (P:=prog) (α:=St) cA6 rfl (N:=fun b=>b=w.heap.size) (w:=w6) (hN y6) (xs:=[.agg #[.int .i64 1,.int .i64 1,.slice none 0 0,o9 sV,o9 e0,.int .i64 1,.int .i64 2,o9 e0,.slice none 0 0,.bool false,.slice none 0 0,.slice none 0 0,.slice none 0 0],.agg #[.int .i64 2,.int .i64 4,.slice none 0 0,o9 sG,o9 sP,.int .i64 0,.int .i64 0,o9 e0,.slice none 0 0,.bool false,v4,.slice none 0 0,.slice none 0 0],.agg #[.int .i64 3,.int .i64 3,.slice none 0 0,o9 e0,o9 e0,.int .i64 2,.int .i64 0,o9 sV,.slice none 0 0,.bool false,.slice none 0 0,.slice none 0 0,.slice none 0 0],.agg #[.int .i64 4,.int .i64 3,.slice none 0 0,o9 e0,o9 e0,.int .i64 2,.int .i64 0,o9 sG,.slice none 0 0,.bool false,.slice none 0 0,.slice none 0 0,.slice none 0 0]]) (ys:=[.mk 1 1 [] sV e0 (aZ6 2) false [] [] [],.mk 2 4 [] sG sP (.mk 0 0 e0 []) false [⟨false,e0,aZ6 3⟩,⟨true,sV,.mk 0 0 e0 []⟩] [] [],.mk 3 3 [] e0 e0 (aa5 sV) false [] [] [],.mk 4 3 [] e0 e0 (aa5 sG) false [] [] []]) (parts:=#[(0,.agg #[.int .i64 1,.int .i64 1,.slice none 0 0,o9 sV,o9 e0,.int .i64 1,.int .i64 2,o9 e0,.slice none 0 0,.bool false,.slice none 0 0,.slice none 0 0,.slice none 0 0]),(1,.agg #[.int .i64 2,.int .i64 4,.slice none 0 0,o9 sG,o9 sP,.int .i64 0,.int .i64 0,o9 e0,.slice none 0 0,.bool false,v4,.slice none 0 0,.slice none 0 0]),(2,.agg #[.int .i64 3,.int .i64 3,.slice none 0 0,o9 e0,o9 e0,.int .i64 2,.int .i64 0,o9 sV,.slice none 0 0,.bool false,.slice none 0 0,.slice none 0 0,.slice none 0 0]),(3,.agg #[.int .i64 4,.int .i64 3,.slice none 0 0,o9 e0,o9 e0,.int .i64 2,.int .i64 0,o9 sG,.slice none 0 0,.bool false,.slice none 0 0,.slice none 0 0,.slice none 0 0])]) (n:=4) rfl ⟨bc4 H7 (as7 H7) H7 H7 H7,bc4 H7 (as7 H7) r4' H7 H7,bc4 H7 (as7 H7) H7 H7 H7,bc4 H7 (as7 H7) H7 H7 H7,trivial⟩ rfl (by simp) (by simp);have y7:=y6.trans x7;have hsv1:SV (B7 w7 fun b=>b=w.heap.size) (.agg #[o9 R2,.slice none 0 0,v1,v7,.slice none 0 0]) bm8:=cP6 H7 (A3.mono (noE (((((x2.trans x3).trans x4).trans x5).trans x6).trans x7)) r1) r7 H7;obtain⟨d1,wz8,w8,hal8,hst8,x8,hat8⟩:=am3 (w:=w7) (fun b=>b=w.heap.size) hsv1 (hN y7);have y8:=y7.trans x8;obtain⟨v9,w9,q9,r9,k9,x9,_,_⟩:=cl3 (P:=prog) (α:=Pa) dd3 rfl (N:=fun b=>b=w.heap.size) (w:=w8) (hN y8) (xs:=[.agg #[o9 sX,.bool false],.agg #[o9 sY,.bool true]]) (ys:=[⟨sX,false⟩,⟨sY,true⟩]) (parts:=#[(0,.agg #[o9 sX,.bool false]),(1,.agg #[o9 sY,.bool true])]) (n:=2) rfl ⟨⟨_,rfl,rfl⟩,⟨_,rfl,rfl⟩,trivial⟩ rfl (by simp) (by simp);have y9:=y8.trans x9;obtain⟨v10,w10,q10,r10,k10,x10⟩:=cS6 sE (N:=fun b=>b=w.heap.size) w9 (hN y9);have y10:=y9.trans x10;simp only[i5,simprocAttr,bs3,q7,bp1 _ _ _ k1 k7,hal8,hst8,bq1,bq2,q9,q10];refine B2 (an3 sY w10) (fun w11 x11=>?_);simp only[i5,simprocAttr];refine B2 (an3 sX w11) (fun w12 x12=>?_);have y12:=(y10.trans x11).trans x12;simp only[i5,simprocAttr];refine z7 (cd7 (N:=fun b=>b=w.heap.size) 8 (aa5 sY) (aa5 sX) _ _ _ _ _ _ _ _ w12 (hN y12) (as7 H7) (as7 H7)) ?_;rintro _ w13 ⟨v13,rfl,r13,x13⟩;have y13:=y12.trans x13;simp only[i5,simprocAttr,bs1];refine B2 (an3 sY w13) (fun w14 x14=>?_);simp only[i5,simprocAttr];refine B2 (bA8 9 w14) (fun w15 x15=>?_);have y15:=(y13.trans x14).trans x15;simp only[i5,simprocAttr];refine z7 (cd7 (N:=fun b=>b=w.heap.size) 12 (aa5 sY) (aZ6 9) _ _ _ _ _ _ _ _ w15 (hN y15) (as7 H7) (as7 H7)) ?_;rintro _ w16 ⟨v16,rfl,r16,x16⟩;have y16:=y15.trans x16;obtain⟨v17,w17,q17,r17,k17,x17,_,_⟩:=cl3 (P:=prog) (α:=St) cA6 rfl (N:=fun b=>b=w.heap.size) (w:=w16) (hN y16) (xs:=[.agg #[.int .i64 7,.int .i64 10,.slice none 0 0,o9 sE,o9 e0,.int .i64 0,.int .i64 0,o9 e0,.slice none 0 0,.bool false,.slice none 0 0,.slice none 0 0,.slice none 0 0]]) (ys:=[.mk 7 10 [] sE e0 (.mk 0 0 e0 []) false [] [] []]) (parts:=#[(0,.agg #[.int .i64 7,.int .i64 10,.slice none 0 0,o9 sE,o9 e0,.int .i64 0,.int .i64 0,o9 e0,.slice none 0 0,.bool false,.slice none 0 0,.slice none 0 0,.slice none 0 0])]) (n:=1) rfl ⟨bc4 H7 (as7 H7) H7 H7 H7,trivial⟩ rfl (by simp) (by simp);have y17:=y16.trans x17;simp only[i5,simprocAttr,bs4,q17,bs5 _ _ _ _ _ _ _ k17];refine B2 (an3 sY w17) (fun w18 x18=>?_);have y18:=y17.trans x18;have r17':=A3.mono (noE x18) r17;have r16':=A3.mono (noE (x17.trans x18)) r16;have r13':=A3.mono (noE ((((x14.trans x15).trans x16).trans x17).trans x18)) r13;obtain⟨v19,w19,q19,r19,k19,x19,_,_⟩:=cl3 (P:=prog) (α:=St) cA6 rfl (N:=fun b=>b=w.heap.size) (w:=w18) (hN y18) (xs:=[.agg #[.int .i64 5,.int .i64 1,.slice none 0 0,o9 sY,o9 e0,.int .i64 8,.int .i64 0,o9 e0,v13,.bool false,.slice none 0 0,.slice none 0 0,.slice none 0 0],.agg #[.int .i64 6,.int .i64 5,.slice none 0 0,o9 e0,o9 e0,.int .i64 12,.int .i64 0,o9 e0,v16,.bool false,.slice none 0 0,v17,.slice none 0 0],.agg #[.int .i64 8,.int .i64 9,.slice none 0 0,o9 e0,o9 e0,.int .i64 2,.int .i64 0,o9 sY,.slice none 0 0,.bool true,.slice none 0 0,.slice none 0 0,.slice none 0 0]]) (ys:=[.mk 5 1 [] sY e0 (ca4 8 (aa5 sY) (aa5 sX)) false [] [] [],.mk 6 5 [] e0 e0 (ca4 12 (aa5 sY) (aZ6 9)) false [] [.mk 7 10 [] sE e0 (.mk 0 0 e0 []) false [] [] []] [],.mk 8 9 [] e0 e0 (aa5 sY) true [] [] []]) (parts:=#[(0,.agg #[.int .i64 5,.int .i64 1,.slice none 0 0,o9 sY,o9 e0,.int .i64 8,.int .i64 0,o9 e0,v13,.bool false,.slice none 0 0,.slice none 0 0,.slice none 0 0]),(1,.agg #[.int .i64 6,.int .i64 5,.slice none 0 0,o9 e0,o9 e0,.int .i64 12,.int .i64 0,o9 e0,v16,.bool false,.slice none 0 0,v17,.slice none 0 0]),(2,.agg #[.int .i64 8,.int .i64 9,.slice none 0 0,o9 e0,o9 e0,.int .i64 2,.int .i64 0,o9 sY,.slice none 0 0,.bool true,.slice none 0 0,.slice none 0 0,.slice none 0 0])]) (n:=3) rfl ⟨bc4 H7 (as7 r13') H7 H7 H7,bc4 H7 (as7 r16') H7 r17' H7,bc4 H7 (as7 H7) H7 H7 H7,trivial⟩ rfl (by simp) (by simp);have y19:=y18.trans x19;have z9:o7 w9 w19:=((((((((x10.trans x11).trans x12).trans x13).trans x14).trans x15).trans x16).trans x17).trans x18).trans x19;have z10:o7 w10 w19:=(((((((x11.trans x12).trans x13).trans x14).trans x15).trans x16).trans x17).trans x18).trans x19;have hsv2:SV (B7 w19 fun b=>b=w.heap.size) (.agg #[o9 sP,v9,.slice none 0 0,v19,v10]) bm9:=cP6 (A3.mono (noE z9) r9) H7 r19 (A3.mono (noE z10) r10);obtain⟨d2,wz20,w20,hal20,hst20,x20,hat20⟩:=am3 (w:=w19) (fun b=>b=w.heap.size) hsv2 (hN y19);have y20:=y19.trans x20;obtain⟨v21,w21,q21,r21,k21,x21⟩:=cS6 sG (N:=fun b=>b=w.heap.size) w20 (hN y20);have y21:=y20.trans x21;have z8:o7 w8 w21:=((x9.trans z9).trans x20).trans x21;have l1:=(I2.pr_v hsv1 hat8).1 w21 (p9 (noE z8) (B3 _ _));have l2:=(I2.pr_v hsv2 hat20).1 w21 (p9 (noE x21) (B3 _ _));obtain⟨v22,w22,q22,r22,k22,x22,_,_⟩:=cl3 (P:=prog) (α:=Pr) dd4 rfl (N:=fun b=>b=w.heap.size) (w:=w21) (hN y21) (xs:=[.agg #[o9 R2,.slice none 0 0,v1,v7,.slice none 0 0],.agg #[o9 sP,v9,.slice none 0 0,v19,v10]]) (ys:=[bm8,bm9]) (parts:=#[(0,.agg #[o9 R2,.slice none 0 0,v1,v7,.slice none 0 0]),(1,.agg #[o9 sP,v9,.slice none 0 0,v19,v10])]) (n:=2) rfl ⟨hsv1.mono (noE (x8.trans z8)),hsv2.mono (noE (x20.trans x21)),trivial⟩ rfl (by simp) (by simp);have y22:=y21.trans x22;have r21':=A3.mono (noE x22) r21;have h21c:=X8 r21;have h22c:=X8 r22;obtain⟨w23,e1,e2,e3,e4⟩:=hend w22 #[v21,v22] (by rw[bN1];rfl) (fun u hu=>by
  simp only[dt1,dw3,dC5]at hu;rcases hu with rfl|rfl
  ·exact h21c
  ·exact h22c) y22
 simp only[i5,simprocAttr,bs6,q19,bp2 _ _ _ _ k9 k19 k10,hal20,hst20,q21,l1,l2,q22,bg1 _ _ k21 k22,e1];refine L6 results30 (ad:=⟨w.heap.size,0,none⟩) (by simp only[p6,simprocAttr]) e2 ?_;refine⟨?_,e3⟩;have hh:B5 (B7 w22 fun b=>b=w.heap.size) (i4 w23):=H9 (B3 _ _) e4 fun b hb=>H3 hb;exact dd8 (A3.mono hh r21') (A3.mono hh r22)
end Go.Proofs.YtcbnbgpphippoaaGreat

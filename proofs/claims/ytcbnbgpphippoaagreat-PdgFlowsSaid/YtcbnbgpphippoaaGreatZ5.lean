/- pdgFlows.proved: for every input the law returns true. No condition. Part 5 of 7. -/
import Derived.Laws.IdiomRangeMap
import Derived.Test.YtcbnbgpphippoaaGreatZ4
set_option maxRecDepth 1000000
set_option maxHeartbeats 8000000
set_option linter.unusedVariables false
set_option linter.unusedSimpArgs false
set_option linter.unnecessarySimpa false
set_option linter.defProp false
namespace Go.Proofs.YtcbnbgpphippoaaGreat
open Go Tryz
section
variable {P:Program} {h:Hp} {w:World} {t T:TypeId} {v:Value}
theorem Z0.set{xs:List Int}(ho:Z0 h w T v xs){k:Nat}(hk:k<xs.length)(y:Int){inf:TypeInfo}(hinf:P.info? t=some inf)(hs:inf.size=1):
  ∃w',(Instr.storeAt t (.pointer (some (H1 v k))) (.int .i64 y)).run P w = .ok () w'∧Z0 h w' T v (xs.set k y)∧o9 (A4 v) w w':=by
 rcases ho with⟨rfl,rfl⟩|⟨b,off,c,cur,rfl,h1,h2,h3,h4,h5,h6⟩
 ·simp at hk
 ·have ha:(⟨b,off,.none⟩:Addr).add k=⟨b,off+k,.none⟩:=by unfold Addr.add;split<;>simp_all
  obtain⟨w',s1,s2,s3⟩:=ai0 (P:=P) (t:=t) (i:=off+k) (x:=.int .i64 y) h2 (by omega) rfl rfl hinf hs;refine⟨w',by simp only[H1,ha];exact s1,.inr ⟨b,off,c,_,by simp,h1,s2,by simpa using h3,h4,by simpa using h5,fun j x hj=>?_⟩,s3.weaken fun b' _ hb=>by subst hb;rfl⟩;rw[Array.getElem?_setIfInBounds];rw[List.getElem?_set]at hj;by_cases hkj:k=j
  ·subst hkj;rw[if_pos rfl,if_pos hk]at hj;obtain rfl:=ey4 hj;rw[if_pos rfl,if_pos (by omega)]
  ·rw[if_neg hkj]at hj;rw[if_neg (by omega)];exact h6 j x hj
end
structure ST (w0 w:World) (rb gb:Nat) (ui uw vt:Value) (us:List Y0) (ins:List (List W)) (waits:List Bool) (todo:List Int) (T:Int):Prop where
 rows:K5 (d7 w0) w 275 220 ui us ins
 wts:A9 (d7 w0) w 4 uw waits
 q:Z0 (d7 w0) w 3 vt todo
 cg:w.heap[gb]?=some (.cells #[.slice none 0 0,.int .i64 T] 189 (0,0))
 cr:w.heap[rb]?=some (.cells #[.slice none 0 0,.int .i64 0] 189 (0,0))
 d1:∀b,K7 ui us b→¬A4 vt b∧¬A4 uw b∧b≠gb∧b≠rb
 d2:∀b,A4 vt b→¬A4 uw b∧b≠gb∧b≠rb
 d3:∀b,A4 uw b→b≠gb∧b≠rb
 d4:gb≠rb
 ext:o6 w0 w
 fg:w0.heap.size≤gb
 frb:w0.heap.size≤rb
section
variable {w0 w:World} {rb gb:Nat} {ui uw vt:Value} {us:List Y0} {ins:List (List W)} {waits:List Bool} {todo:List Int} {T:Int}
theorem ST.lg(s:ST w0 w rb gb ui uw vt us ins waits todo T):gb<w.heap.size:=(ex0.1 s.cg).1
theorem ST.lr(s:ST w0 w rb gb ui uw vt us ins waits todo T):rb<w.heap.size:=(ex0.1 s.cr).1
theorem ST.ge(s:ST w0 w rb gb ui uw vt us ins waits todo T){b:Nat}(hb:d7 w0 b=none):w0.heap.size≤b:=
 eJ4 fun hlt=>by simp[d7,hlt]at hb
theorem ST.more(s:ST w0 w rb gb ui uw vt us ins waits todo T){w':World}(hx:o6 w w'):ST w0 w' rb gb ui uw vt us ins waits todo T:=
 ⟨s.rows.ext hx,s.wts.ext hx,s.q.ext hx,(hx.block gb s.lg id).trans s.cg,(hx.block rb s.lr id).trans s.cr,s.d1,s.d2,s.d3,s.d4,s.ext.trans hx,s.fg,s.frb⟩
theorem ST.wait{P:Program}{t:TypeId}(s:ST w0 w rb gb ui uw vt us ins waits todo T){k:Nat}(hk:k<waits.length)(y:Bool){inf:TypeInfo}(hinf:P.info? t=some inf)(hs:inf.size=1):
  ∃w',(Instr.storeAt t (.pointer (some (H1 uw k))) (.bool y)).run P w = .ok () w'∧ST w0 w' rb gb ui uw vt us ins (waits.set k y) todo T:=by
 obtain⟨w',s1,s2,s3,s4⟩:=E1 (P:=P) (t:=t) s.wts rfl hk (x:=.bool y) (y:=y) rfl rfl hinf hs;refine⟨w',s1,s.rows.mod s3 fun b hb=>(s.d1 b hb).2.1,s2,s.q.mod s3 fun b hb=>(s.d2 b hb).1,(s3.block gb s.lg fun h=>(s.d3 gb h).1 rfl).trans s.cg,(s3.block rb s.lr fun h=>(s.d3 rb h).2 rfl).trans s.cr,s.d1,s.d2,s.d3,s.d4,o9.ext_of s.ext s3 fun b hb=>s.ge (s.wts.free hb),s.fg,s.frb⟩
theorem ST.wait2{P:Program}{t:TypeId}(s:ST w0 w rb gb ui uw vt us ins waits todo T){k:Nat}(hk:k<waits.length)(y:Bool){inf:TypeInfo}(hinf:P.info? t=some inf)(hs:inf.size=1):
  ∃w',(Instr.storeAt t (.pointer (some (H1 uw k))) (.bool y)).run P w = .ok () w'∧ST w0 w' rb gb ui uw vt us ins (waits.set k y) todo T∧o9 (A4 uw) w w':=by
 obtain⟨w',s1,s2,s3,s4⟩:=E1 (P:=P) (t:=t) s.wts rfl hk (x:=.bool y) (y:=y) rfl rfl hinf hs;refine⟨w',s1,⟨s.rows.mod s3 fun b hb=>(s.d1 b hb).2.1,s2,s.q.mod s3 fun b hb=>(s.d2 b hb).1,(s3.block gb s.lg fun h=>(s.d3 gb h).1 rfl).trans s.cg,(s3.block rb s.lr fun h=>(s.d3 rb h).2 rfl).trans s.cr,s.d1,s.d2,s.d3,s.d4,o9.ext_of s.ext s3 fun b hb=>s.ge (s.wts.free hb),s.fg,s.frb⟩,s3⟩
theorem ST.times{P:Program}{t:TypeId}(s:ST w0 w rb gb ui uw vt us ins waits todo T)(T':Int){inf:TypeInfo}(hinf:P.info? t=some inf)(hs:inf.size=1):
  ∃w',(Instr.storeAt t (.pointer (some ⟨gb,1,none⟩)) (.int .i64 T')).run P w = .ok () w'∧ST w0 w' rb gb ui uw vt us ins waits todo T':=by
 obtain⟨w',s1,s2,s3⟩:=ai0 (P:=P) (t:=t) (i:=1) (x:=.int .i64 T') s.cg (by simp) rfl rfl hinf hs;refine⟨w',s1,s.rows.mod s3 fun b hb=>(s.d1 b hb).2.2.1,s.wts.mod s3 fun b hb=>(s.d3 b hb).1,s.q.mod s3 fun b hb=>(s.d2 b hb).2.1,s2,(s3.block rb s.lr fun h=>s.d4 h.symm).trans s.cr,s.d1,s.d2,s.d3,s.d4,o9.ext_of s.ext s3 fun b hb=>by subst hb;exact s.fg,s.fg,s.frb⟩
theorem ST.tail{x:Int}{rest:List Int}(s:ST w0 w rb gb ui uw vt us ins waits (x::rest) T):ST w0 w rb gb ui uw (reS vt 1 (rest.length+1) 1) us ins waits rest T:=by
 obtain⟨h1,h2⟩:=s.q.tail;exact⟨s.rows,s.wts,h1,s.cg,s.cr,fun b hb=>⟨fun h=>(s.d1 b hb).1 ((h2 b).1 h),(s.d1 b hb).2⟩,fun b hb=>s.d2 b ((h2 b).1 hb),s.d3,s.d4,s.ext,s.fg,s.frb⟩
theorem ST.push{P:Program}{t e:TypeId}{by_:Nat}(hsl:E8 P t 3 1 by_=true)(s:ST w0 w rb gb ui uw vt us ins waits todo T)(y:Int)(hl:todo.length+1≤1000000000000)(hb:(todo.length+1)*by_≤140737488355328):
  (Instr.buildSlice t 1 #[(0,.int .i64 y)]).run P w = .ok (.slice (some ⟨w.heap.size,0,none⟩) 1 1) (w.alloc (.cells #[.int .i64 y] 3)) ∧
  ∃v' w',(Builtin.append_ #[t,t] e #[vt,.slice (some ⟨w.heap.size,0,none⟩) 1 1]).run P (w.alloc (.cells #[.int .i64 y] 3)) = .ok v' w'∧ST w0 w' rb gb ui uw v' us ins waits (todo++[y]) T:=by
 obtain⟨h1,v',w',h2,h3,h4,h5⟩:=s.q.push (e:=e) hsl y hl hb (b7 s.ext);refine⟨h1,v',w',h2,s.rows.mod h4 fun b hb=>(s.d1 b hb).1,s.wts.mod h4 fun b hb hb2=>(s.d2 b hb2).1 hb,h3,(h4.block gb s.lg fun h=>(s.d2 gb h).2.1 rfl).trans s.cg,(h4.block rb s.lr fun h=>(s.d2 rb h).2.2 rfl).trans s.cr,fun b hb=>⟨fun h=>?_,(s.d1 b hb).2⟩,fun b hb=>?_,s.d3,s.d4,o9.ext_of s.ext h4 fun b hb=>s.ge (s.q.free hb),s.fg,s.frb⟩
 ·rcases h5 b h with h|h
  ·exact(s.d1 b hb).1 h
  ·have:=s.rows.lt hb;omega
 ·rcases h5 b hb with h|h
  ·exact s.d2 b h
  ·exact⟨fun hh=>by have:=s.wts.lt hh;omega,by have:=s.lg;omega,by have:=s.lr;omega⟩
theorem ST.push2{P:Program}{t e:TypeId}{by_:Nat}(hsl:E8 P t 3 1 by_=true)(s:ST w0 w rb gb ui uw vt us ins waits todo T)(y:Int)(hl:todo.length+1≤1000000000000)(hb:(todo.length+1)*by_≤140737488355328):
  (Instr.buildSlice t 1 #[(0,.int .i64 y)]).run P w = .ok (.slice (some ⟨w.heap.size,0,none⟩) 1 1) (w.alloc (.cells #[.int .i64 y] 3)) ∧
  ∃v' w',(Builtin.append_ #[t,t] e #[vt,.slice (some ⟨w.heap.size,0,none⟩) 1 1]).run P (w.alloc (.cells #[.int .i64 y] 3)) = .ok v' w'∧ST w0 w' rb gb ui uw v' us ins waits (todo++[y]) T∧o9 (A4 vt) w w'∧E0 w vt v':=by
 obtain⟨h1,v',w',h2,h3,h4,h5⟩:=s.q.push (e:=e) hsl y hl hb (b7 s.ext);refine⟨h1,v',w',h2,⟨s.rows.mod h4 fun b hb=>(s.d1 b hb).1,s.wts.mod h4 fun b hb hb2=>(s.d2 b hb2).1 hb,h3,(h4.block gb s.lg fun h=>(s.d2 gb h).2.1 rfl).trans s.cg,(h4.block rb s.lr fun h=>(s.d2 rb h).2.2 rfl).trans s.cr,fun b hb=>⟨fun h=>?_,(s.d1 b hb).2⟩,fun b hb=>?_,s.d3,s.d4,o9.ext_of s.ext h4 fun b hb=>s.ge (s.q.free hb),s.fg,s.frb⟩,h4,h5⟩
 ·rcases h5 b h with h|h
  ·exact(s.d1 b hb).1 h
  ·have:=s.rows.lt hb;omega
 ·rcases h5 b hb with h|h
  ·exact s.d2 b h
  ·exact⟨fun hh=>by have:=s.wts.lt hh;omega,by have:=s.lg;omega,by have:=s.lr;omega⟩
theorem ST.row(s:ST w0 w rb gb ui uw vt us ins waits todo T){w':World}{i:Nat}{u:Y0}(hi:us[i]?=some u){r:List W}(hm:o9 (A4 u.v) w w')(ho:A9 (d7 w0) w' 220 u.v r):ST w0 w' rb gb ui uw vt us (ins.set i r) waits todo T:=by
 have hu:∀b,A4 u.v b→K7 ui us b:=fun b hb=>.inr ⟨u,ey5 hi,hb⟩;exact⟨s.rows.write hi hm ho,s.wts.mod hm fun b hb hb2=>(s.d1 b (hu b hb2)).2.1 hb,s.q.mod hm fun b hb hb2=>(s.d1 b (hu b hb2)).1 hb,(hm.block gb s.lg fun h=>(s.d1 gb (hu gb h)).2.2.1 rfl).trans s.cg,(hm.block rb s.lr fun h=>(s.d1 rb (hu rb h)).2.2.2 rfl).trans s.cr,s.d1,s.d2,s.d3,s.d4,o9.ext_of s.ext hm fun b hb=>s.ge (s.rows.free (hu b hb)),s.fg,s.frb⟩
theorem ST.put{P:Program}{t:TypeId}(s:ST w0 w rb gb ui uw vt us ins waits todo T){w1:World}(hx:o6 w w1){i:Nat}{u:Y0}(hi:us[i]?=some u){u':Value}{r:List W}(ho:A9 (d7 w0) w1 220 u' r)(hf:∀b,A4 u' b→w.heap.size≤b){inf:TypeInfo}(hinf:P.info? t=some inf)(hs:inf.size=1):
  ∃w2,(Instr.storeAt t (.pointer (some (H1 ui i))) u').run P w1 = .ok () w2∧ST w0 w2 rb gb ui uw vt (us.set i ⟨u'⟩) (ins.set i r) waits todo T:=by
 obtain⟨w2,s1,s2,s3,s4⟩:=s.rows.put (P:=P) (t:=t) hi (hx.weaken fun _ _ h=>h.elim) ho (fun b hb=>.inr (hf b hb)) hinf hs;have hv:∀b,A4 ui b→K7 ui us b:=fun b hb=>.inl hb;have s':=s.more hx;refine⟨w2,s1,s2,s'.wts.mod s3 fun b hb hb2=>(s.d1 b (hv b hb2)).2.1 hb,s'.q.mod s3 fun b hb hb2=>(s.d1 b (hv b hb2)).1 hb,(s3.block gb s'.lg fun h=>(s.d1 gb (hv gb h)).2.2.1 rfl).trans s'.cg,(s3.block rb s'.lr fun h=>(s.d1 rb (hv rb h)).2.2.2 rfl).trans s'.cr,fun b hb=>?_,s.d2,s.d3,s.d4,o9.ext_of s'.ext s3 fun b hb=>s.ge (s.rows.free (hv b hb)),s.fg,s.frb⟩;rcases hb with hb|⟨x,hx',hb⟩
 ·exact s.d1 b (.inl hb)
 ·rcases eE4 hx' with h|h
  ·exact s.d1 b (.inr ⟨x,h,hb⟩)
  ·subst h;have h9:=hf b hb;exact⟨fun hh=>by have:=s.q.lt hh;omega,fun hh=>by have:=s.wts.lt hh;omega,by have:=s.lg;omega,by have:=s.lr;omega⟩
theorem ST.qset{P:Program}{t:TypeId}(s:ST w0 w rb gb ui uw vt us ins waits todo T){k:Nat}(hk:k<todo.length)(y:Int){inf:TypeInfo}(hinf:P.info? t=some inf)(hs:inf.size=1):
  ∃w',(Instr.storeAt t (.pointer (some (H1 vt k))) (.int .i64 y)).run P w = .ok () w'∧ST w0 w' rb gb ui uw vt us ins waits (todo.set k y) T:=by
 obtain⟨w',h1,h3,h4⟩:=s.q.set (P:=P) (t:=t) hk y hinf hs;exact⟨w',h1,s.rows.mod h4 fun b hb=>(s.d1 b hb).1,s.wts.mod h4 fun b hb hb2=>(s.d2 b hb2).1 hb,h3,(h4.block gb s.lg fun h=>(s.d2 gb h).2.1 rfl).trans s.cg,(h4.block rb s.lr fun h=>(s.d2 rb h).2.2 rfl).trans s.cr,s.d1,s.d2,s.d3,s.d4,o9.ext_of s.ext h4 fun b hb=>s.ge (s.q.free hb),s.fg,s.frb⟩
end
theorem ei9:ag0 prog 241=true:=by kernel_rfl
theorem ej0:ag0 prog 242=true:=by kernel_rfl
theorem ej1:ag0 prog 243=true:=by kernel_rfl
theorem ej2:ag0 prog 244=true:=by kernel_rfl
theorem bp9(w:World):(Instr.alloc 189 true (.tuple #[])).run prog w = .ok (.pointer (some ⟨w.heap.size,0,none⟩)) (w.alloc (.cells #[.slice none 0 0,.int .i64 0] 189)):=
 (aH8 (P:=prog) (T:=189) aW5 (by rw[aa0];rfl) (cs:=#[.slice none 0 0,.int .i64 0]) (by rw[aa0];rfl) (by simp[Value.oneCell'])).1
def goW(g r k:List W)(i:Nat):W:=g.getD i 0#64 ||| (r.getD i 0#64 &&& ~~~(k.getD i 0#64))
def X4(g r k:List W)(m i:Nat):List W:=(List.range m).map fun j=>if j<i then goW g r k j else 0#64
theorem bH1(g r k:List W)(m:Nat):X4 g r k m 0=List.replicate m 0#64:=by
 unfold X4;apply eE1 (by simp);intro i h1 h2;simp
theorem an1(g r k:List W)(m i:Nat):(X4 g r k m i).length=m:=by simp[X4]
theorem bh1(g r k:List W)(m i j:Nat):(X4 g r k m i)[j]?=if j<m then some (if j<i then goW g r k j else 0#64)else none:=by
 unfold X4;rw[eA3];by_cases hj:j<m
 ·rw[eG3 hj,if_pos hj];rfl
 ·rw[eD2 (by simp;omega),if_neg hj];rfl
theorem bH0(g r k:List W){m i:Nat}(hi:i<m):(X4 g r k m i).set i (goW g r k i)=X4 g r k m (i+1):=by
 apply eI6;intro j;rw[List.getElem?_set,bh1,bh1,an1];by_cases e:i=j
 ·subst e;rw[if_pos rfl,if_pos hi,if_pos hi,if_pos (by omega)]
 ·rw[if_neg e];by_cases h3:j<i
  ·rw[if_pos h3,if_pos (show j<i+1 by omega)]
  ·rw[if_neg h3,if_neg (show ¬j<i+1 by omega)]
theorem bS3(g r k:List W){m:Nat}(hg:g.length=m)(hr:r.length=m)(hk:k.length=m)(f:Nat):N4 (X4 g r k m m) f=(N4 g f||(N4 r f && !N4 k f)):=by
 unfold N4;by_cases hi:f / 64<m
 ·have h1:(X4 g r k m m).getD (f / 64) 0#64=goW g r k (f / 64):=by
   unfold X4;simp only[List.getD,eA3,eG3 hi,eC3,eC5];rw[if_pos hi]
  rw[h1];unfold goW;rw[BitVec.getLsbD_or,BitVec.getLsbD_and,BitVec.getLsbD_not];have:f % 64<64:=Nat.mod_lt _ (by decide);simp[this]
 ·have h0:∀l:List W,l.length=m→l.getD (f / 64) 0#64=0#64:=fun l hl=>by
   simp only[List.getD];rw[eD2 (by omega)];rfl
  rw[h0 _ (an1 g r k m m),h0 g hg,h0 r hr];simp
theorem ST.ge'{w0 w:World}{rb gb:Nat}{ui uw vt:Value}{us:List Y0}{ins:List (List W)}{waits:List Bool}{todo:List Int}{T:Int}(s:ST w0 w rb gb ui uw vt us ins waits todo T){w1:World}{b:Nat}(hb:d7 w1 b=none):w1.heap.size≤b:=
 eJ4 fun hlt=>by simp[d7,hlt]at hb
theorem co2(pg:Value)(nx pv:List (List Int))(vg vk:Value)(gs ks:List (List W))(gl kl:List (List Int))(most:Nat)(w:World)
  (hgr:GR (d7 w) pg nx pv) (hgg:az9 nx.length (nx,pv)) (hvg:R (d7 w) vg gs) (hvk:R (d7 w) vk ks) (hsg:cq3 most gl gs) (hsk:cq3 most kl ks) (hgn:gl.length=nx.length) (hkn:kl.length=nx.length) (hfg:aN3 gl most) (hn5:nx.length≤5000) (hm5:most≤5000) :
  Calls prog 198 #[pg,vg,vk,.int .i64 most] w fun e w'=>∃u,e = .returned u∧((∃vi sol T,u = .agg #[vi,.int .i64 (T:Nat)]∧R (B8 w' (fun b=>b<w.heap.size)) vi sol∧sol.length=nx.length∧(∀b,G9 nx.length b=true→∃f:Nat→Bool,C3 sol b=((List.range most).filter f).map (fun(i:Nat)=>(i:Int))∧∀i,f i=true↔ar6 nx gl kl b i)∧nx.length≤T∧T≤nx.length+nx.length*most)∧o6 w w'):=by
 refine d9 (args:=[pg,vg,vk,.int .i64 most]) hm func198 rfl (by kernel_rfl) (by show 4≤_;decide +kernel) ?_;have hal:=bp9;simp only[H8,zVB,simprocAttr,hal];have c1:(w.alloc (.cells #[.slice none 0 0,.int .i64 0] 189)).heap[w.heap.size]?=some (.cells #[.slice none 0 0,.int .i64 0] 189 (0,0)):=eA5 w _;have x1:=o6.alloc w (.cells #[.slice none 0 0,.int .i64 0] 189);have sz1:(w.alloc (.cells #[.slice none 0 0,.int .i64 0] 189)).heap.size=w.heap.size+1:=by simp
 generalize w.alloc (.cells #[.slice none 0 0,.int .i64 0] 189)=w1 at *;have c2:(w1.alloc (.cells #[.slice none 0 0,.int .i64 0] 189)).heap[w1.heap.size]?=some (.cells #[.slice none 0 0,.int .i64 0] 189 (0,0)):=eA5 w1 _;have x2:=o6.alloc w1 (.cells #[.slice none 0 0,.int .i64 0] 189);have sz2:(w1.alloc (.cells #[.slice none 0 0,.int .i64 0] 189)).heap.size=w1.heap.size+1:=by simp
 generalize w1.alloc (.cells #[.slice none 0 0,.int .i64 0] 189)=w2 at *;have x02:=x1.trans x2;have hgr2:=hgr.mono (b7 x02);refine z6 ei9 (cK1 pg nx pv w2 hgr2) ?_;rintro u w2' ⟨hu,hw2⟩;subst hw2;subst hu;have hz:A3.enc (d7 w) (Value.slice none 0 0).cells.toList E2:=⟨rfl,rfl⟩;obtain⟨ui,w3,m1,o1,x3,f1,s1⟩:=mk (P:=prog) (w:=w2') (h:=d7 w) cZ4 aW6 (α:=Y0) (y:=E2) hz (n:=nx.length) (by omega) (by omega) (b7 x02);obtain⟨ut,w4,m2,o2,x4,f2,s2⟩:=mk (P:=prog) (w:=w3) (h:=d7 w) ac7 ay2 (α:=Int) (y:=0) rfl (n:=nx.length) (by omega) (by omega) (b7 (x02.trans x3));obtain⟨uw,w5,m3,o3,x5,f3,s3⟩:=mk (P:=prog) (w:=w4) (h:=d7 w) bp3 S1 (α:=Bool) (y:=false) rfl (n:=nx.length) (by omega) (by omega) (b7 ((x02.trans x3).trans x4));have x35:=(x3.trans x4).trans x5;have l1:w.heap.size<w2'.heap.size:=by omega
 have l2:w1.heap.size<w2'.heap.size:=by omega
 have hcr:w5.heap[w.heap.size]?=some (.cells #[.slice none 0 0,.int .i64 0] 189 (0,0)):=(x35.block _ l1 id).trans ((x2.block _ (by omega) id).trans c1);have hcg:w5.heap[w1.heap.size]?=some (.cells #[.slice none 0 0,.int .i64 0] 189 (0,0)):=(x35.block _ l2 id).trans c2;have st0:ST w w5 w.heap.size w1.heap.size ui uw ut (List.replicate nx.length E2) (List.replicate nx.length []) (List.replicate nx.length false) (List.replicate nx.length 0) 0:=by
  refine⟨al5 ((o1.ext x4).ext x5),o3,(o2.ext x5).toQ,hcg,hcr,fun b hb=>?_,fun b hb=>⟨fun h=>?_,?_,?_⟩,fun b hb=>⟨?_,?_⟩,by omega,((x02.trans x3).trans x4).trans x5,by omega,ex9 _⟩
  ·have hb':=aD4 hb;have k1:=f1 b hb';have k2:=o1.lt hb';exact⟨fun h=>by have:=f2 b h;omega,fun h=>by have:=f3 b h;omega,by omega,by omega⟩
  ·have:=o2.lt hb;have:=f3 b h;omega
  ·have:=f2 b hb;omega
  ·have:=f2 b hb;omega
  ·have:=f3 b hb;omega
  ·have:=f3 b hb;omega
 have Si:=o1.isS;have ni:=o1.vlen;rw[eB2]at ni;have hgood:=hgg.nx;generalize hrb:w.heap.size=rb at *;generalize hgb:w1.heap.size=gb at *;have q1:=bx4 (P:=prog) (t:=3) most (by omega);have q2:B9 prog .add 3 (.int .i64 ((most / 64:Nat):Int)) (.int .i64 1)=some (.int .i64 ((most / 64+1:Nat):Int)):=by
  simp only[B9,E6,eC9];rw[B2 _ (by omega)]
 have hm64:most / 64+1≤100:=by omega
 obtain⟨hsg1,hsg2⟩:=hsg;obtain⟨hsk1,hsk2⟩:=hsk;generalize hmm:most / 64+1=m at *;generalize hm6:most / 64=m6 at *;simp only[H8,N3,O8,simprocAttr,m1,m2,m3,Si,ni];refine n7 [0,1,2,3,8,9,10,11,12,13,29,30] (σ:=Nat) (fun k f w'=>f 31 = .int .i64 k∧k≤nx.length∧∃us ins waits todo,ST w w' rb gb ui uw ut us ins waits todo 0∧ins.length=nx.length∧waits.length=nx.length∧todo.length=nx.length∧∀j:Nat,j<k→ins[j]?=some (List.replicate m 0#64)∧waits[j]?=some true∧todo[j]?=some (j:Int)) (fun k=>nx.length-k) 0 (by decide +kernel) ?_ ?_
 ·simp only[p7,simprocAttr];exact⟨by first|rfl|trivial,ex6 _,_,_,_,_,st0,by simp,by simp,by simp,fun j hj=>by omega⟩
 ·rintro k f w6 hk ⟨h31,hkl,us,ins,waits,todo,st,li,lw,lt,hdone⟩;simp only[ew6,p7,simprocAttr]at hk;obtain⟨e0,e1,e2,e3,e8,e9,e10,e11,e12,e13,e29,e30,_⟩:=hk;simp only[H8,B9,E6,simprocAttr,h31,e30];refine i5 (fun hc=>?_) (fun hc=>?_)
  ·have hlt:k<nx.length:=by simpa using hc
   have q6:B9 prog .add 3 (.int .i64 k) (.int .i64 1)=some (.int .i64 ((k+1:Nat):Int)):=by
    simp only[B9,E6,eC9];rw[B2 k (by omega)]
   obtain⟨ur,w7,m4,o4,x7,f4,s4⟩:=mk (P:=prog) (w:=w6) (h:=d7 w) dg0 ay1 (α:=W) (y:=0#64) rfl (n:=m) (by omega) (by omega) (b7 st.ext);have lus:us.length=nx.length:=by rw[st.rows.len,li]
   have hui:us[k]?=some (us[k]'(by omega)):=ew4 _;generalize us[k]'(by omega)=u at hui;obtain⟨w8,t1,st1⟩:=st.put (P:=prog) (t:=275) x7 hui o4 f4 (p9 aW6).choose_spec.1 (by rw[←C8 (p9 aW6).choose_spec.1];exact bX4);obtain⟨w9,t2,st2⟩:=st1.qset (P:=prog) (t:=3) (k:=k) (by omega) (k:Int) (p9 ay2).choose_spec.1 (by rw[←C8 (p9 ay2).choose_spec.1];exact aR6);obtain⟨w10,t3,st3⟩:=st2.wait (P:=prog) (t:=4) (k:=k) (by omega) true (p9 S1).choose_spec.1 (by rw[←C8 (p9 S1).choose_spec.1];exact aD9);have in1:=st.rows.outer.inS (k:=k) (by omega);have in2:=st.q.inS (k:=k) (by omega);have in3:=st.wts.inS (k:=k) (by omega);simp only[H8,zVB,v8,simprocAttr,h31,e11,e12,e13,e3,q1,q2,m4,in1,in2,in3,t1,t2,t3,q6];refine⟨k+1,by omega,by trivial,by omega,_,_,_,_,st3,by simp[li],by simp[lw],by simp[lt],fun j hj=>?_⟩;by_cases hjk:j=k
   ·subst hjk;exact⟨eD0 (by omega),eD0 (by omega),eD0 (by omega)⟩
   ·rw[eE6 (fun e=>hjk e.symm),eE6 (fun e=>hjk e.symm),eE6 (fun e=>hjk e.symm)];exact hdone j (by omega)
  ·have hge:k=nx.length:=by simp at hc;omega
   subst hge;have hins:ins=List.replicate nx.length (List.replicate m 0#64):=by
    apply eE1 (by simp[li]);intro j h1 h2;have:=(hdone j (by omega)).1;rw[ew4 h1]at this;simpa using this
   have hwts:waits=List.replicate nx.length true:=by
    apply eE1 (by simp[lw]);intro j h1 h2;have:=(hdone j (by omega)).2.1;rw[ew4 h1]at this;simpa using this
   have htd:todo=(List.range nx.length).map fun(i:Nat)=>(i:Int):=by
    apply eE1 (by simp[lt]);intro j h1 h2;have:=(hdone j (by omega)).2.2;rw[ew4 h1]at this;simpa using this
   have si0:SI nx gl kl most ins todo waits 0:=by
    refine SI.start (by rw[hins,←hmm,←hm6]) (fun a=>?_) ?_ lt hwts
    ·rw[htd,ez6,C7];constructor
     ·rintro⟨i,hi,rfl⟩;have:=eA4.1 hi;omega
     ·rintro⟨h1,h2⟩;exact⟨a.toNat,eA4.2 (by omega),by omega⟩
    ·rw[htd];refine List.Pairwise.map _ (fun a b h=>?_) (List.nodup_range (n:=nx.length));omega
   simp only[H8,simprocAttr];clear hdone hins hwts htd li lw lt st0;have q3:∀T:Nat,T≤100000000→B9 prog .add 3 (.int .i64 (T:Int)) (.int .i64 1)=some (.int .i64 ((T+1:Nat):Int)):=fun T hT=>by
    simp only[B9,E6,eC9];rw[B2 T (by omega)]
   refine n7 [0,1,2,3,8,9,10,11,13] (σ:=List (List W)×List Int) (fun s f w'=>∃waits T,ST w w' rb gb ui uw (f 12) us s.1 waits s.2 (T:Nat)∧SI nx gl kl most s.1 s.2 waits T) (fun s=>cY2 nx.length most s.1 s.2) (ins,todo) (by decide +kernel) ?_ ?_
   ·simp only[p7,simprocAttr];simp only[e12];exact⟨waits,0,st,si0⟩
   ·clear st si0 ins waits todo;rintro⟨ins,todo⟩ f w7 hk ⟨waits,T,st,si⟩;simp only[ew6,p7,simprocAttr]at hk;simp only[e0,e1,e2,e3,e8,e9,e10,e11,e13]at hk;obtain⟨i0,i1,i2,i3,i8,i9,i10,i11,i13,_⟩:=hk;simp only at st si;generalize hvt:f 12=vt at *;have Sq:=st.q.isS;have nq:=st.q.vlen;have hpl:=aP6 most ins;rw[si.ilen]at hpl;have hnm:nx.length*most≤25000000:=ex3 (Nat.mul_le_mul hn5 hm5) (by decide);have hfew:=si.few;simp only[H8,N3,B9,E6,O8,simprocAttr,hvt,Sq,nq];refine i5 (fun hc=>?_) (fun hc=>?_)
    ·have hpos:0<todo.length:=by simpa using hc
     obtain⟨a,rest,rfl⟩:∃a rest,todo=a::rest:=by
      cases todo with
      | nil=>simp at hpos
      | cons a rest=>exact⟨a,rest,rfl⟩
     have hka:G9 nx.length a=true:=si.ok a (by simp);have hka':=C7.1 hka;have d0:decide (0≤a)=true:=by simpa using hka'.1
     have inq:=st.q.inS (k:=0) (by simp);have ldq:=st.q.head (P:=prog) (t:=3) F2;have hvc:=st.q.vcap;have d1:decide ((1:Int)≤(((a::rest).length:Nat):Int))=true:=by simp;omega
     have d2:decide ((((a::rest).length:Nat):Int)≤(vcap vt:Int))=true:=by
      have h9:=hvc;simp only[ey7]at h9 ⊢;simp;omega
     have st1:=st.tail;have hlr:(a::rest).length=rest.length+1:=rfl;rw[hlr]at nq d1 d2;obtain⟨w8,t2,st2⟩:=st1.wait (P:=prog) (t:=4) (k:=a.toNat) (by rw[si.wlen];omega) false (p9 S1).choose_spec.1 (by rw[←C8 (p9 S1).choose_spec.1];exact aD9);have inw:=st.wts.inS (k:=a.toNat) (by rw[si.wlen];omega);have ldT:=F0 (P:=prog) (t:=3) (i:=1) (u:=.int .i64 (T:Int)) st2.cg rfl F2;have hTle:T≤100000000:=by simp only[ey7]at hfew;omega
     have qT:=q3 T hTle;obtain⟨w9,t3,st3⟩:=st2.times (P:=prog) (t:=3) ((T+1:Nat):Int) (p9 ay2).choose_spec.1 (by rw[←C8 (p9 ay2).choose_spec.1];exact aR6);obtain⟨ug,w10,m4,o4,x10,f4,s4⟩:=mk (P:=prog) (w:=w9) (h:=d7 w9) dg0 ay1 (α:=W) (y:=0#64) rfl (n:=m) (by omega) (by omega) (i4 _);have st4:=st3.more x10;have Sg:=o4.isS;have ng:=o4.vlen;rw[eB2]at ng;generalize hrl:rest.length+1=rl at *;generalize hvt2:reS vt 1 rl 1=vt2 at *;generalize hT1:((T+1:Nat):Int)=T1 at *;simp only[H8,zVB,v8,H5,O8,simprocAttr,hvt,Sq,nq,inq,ldq,d1,d2,hvt2,i13,inw,d0,t2,i9,ldT,qT,t3,i3,q1,q2,m4,Sg,ng];have hal:a.toNat<nx.length:=by omega
     have hgla:gl[a.toNat]?=some (C3 gl a):=(ak3 (nx:=gl) (by rw[hgn];exact hka)).1;have hkla:kl[a.toNat]?=some (C3 kl a):=(ak3 (nx:=kl) (by rw[hkn];exact hka)).1;obtain⟨g,hg1,hg2,hg3⟩:=hsg2 _ _ hgla;obtain⟨kk,hk1,hk2,hk3⟩:=hsk2 _ _ hkla;rw[hm6,hmm]at hg2 hk2;obtain⟨xg,hxg,hcg'⟩:=hvg.row hg1;obtain⟨xk,hxk,hck'⟩:=hvk.row hk1;have hra:=ag4 si.ilen hka;have hrl2:(wAt ins a).length=m:=by rw[←hmm,←hm6];exact si.rlen _ (ey5 hra)
     have lus:us.length=nx.length:=by rw[st.rows.len,si.ilen]
     have hua:us[a.toNat]?=some (us[a.toNat]'(by omega)):=ew4 _;generalize us[a.toNat]'(by omega)=ua at hua;have ing:=hvg.inS (k:=a.toNat) (by rw[hsg1,hgn];exact hal);have ink:=hvk.inS (k:=a.toNat) (by rw[hsk1,hkn];exact hal);have inr:=st.rows.outer.inS (k:=a.toNat) (by omega);have hgoes:=bS3 g (wAt ins a) kk hg2 hrl2 hk2;refine n7 [0,1,2,3,8,9,10,11,12,13,15,16,68,69] (σ:=Nat) (fun i f w'=>f 70 = .int .i64 i∧i≤m∧A9 (d7 w9) w' 220 ug (X4 g (wAt ins a) kk m i)∧o6 w9 w') (fun i=>m-i) 0 (by decide +kernel) ?_ ?_
     ·simp only[p7,simprocAttr];exact⟨by first|rfl|trivial,ex6 _,by rw[bH1];exact o4,x10⟩
     ·rintro i f w11 hk ⟨h70,him,hog,hx11⟩;simp only[ew6,p7,simprocAttr]at hk;simp only[i0,i1,i2,i3,i8,i9,i10,i11,i13]at hk;obtain⟨j0,j1,j2,j3,j8,j9,j10,j11,j12,j13,j15,j16,j68,j69,_⟩:=hk;simp only[H8,B9,E6,simprocAttr,h70,j69];refine i5 (fun hc=>?_) (fun hc=>?_)
      ·have hit:i<m:=by simpa using hc
       have q6:B9 prog .add 3 (.int .i64 i) (.int .i64 1)=some (.int .i64 ((i+1:Nat):Int)):=by
        simp only[B9,E6,eC9];rw[B2 i (by omega)]
       have hd:=o6.drew w11;have st11:=(st3.more hx11).more hd;have hld1:=G3 (P:=prog) (t:=275) hcg' (b7 st11.ext) aL7;have hld2:=G3 (P:=prog) (t:=275) hck' (b7 st11.ext) aL7;have hld3:=aG4 (P:=prog) (t:=275) st11.rows hua aL7;have hrow:=st11.rows.row _ _ _ hua hra;have v1:=M5 (P:=prog) (t:=220) hxg (b7 st11.ext) (aX0 (show i<g.length by omega)) af4;have v2:=M5 (P:=prog) (t:=220) hxk (b7 st11.ext) (aX0 (show i<kk.length by omega)) af4;have v3:=D4 (P:=prog) (t:=220) hrow (aX0 (show i<(wAt ins a).length by omega)) af4;have y1:=hxg.inS (k:=i) (by omega);have y2:=hxk.inS (k:=i) (by omega);have y3:=hrow.inS (k:=i) (by omega);have hgw:goW g (wAt ins a) kk i=g.getD i 0#64 ||| ((wAt ins a).getD i 0#64 &&& ~~~(kk.getD i 0#64)):=rfl;have hsu:=bH0 g (wAt ins a) kk hit;rw[hgw]at hsu;simp only[I7.val]at v1 v2 v3;generalize g.getD i 0#64=gi at *;generalize(wAt ins a).getD i 0#64=ri at *;generalize kk.getD i 0#64=ki at *;have b1:=bq5 (P:=prog) (t:=220) ri ki;have b2:=cs6 (P:=prog) (t:=220) gi (ri &&& ~~~ki);have ingi:=hog.inS (k:=i) (by rw[an1];exact hit);obtain⟨w12,t4,o5,m5,_⟩:=E1 (P:=prog) (t:=220) (hog.ext hd) rfl (k:=i) (by rw[an1];exact hit) (x:=.int .u64 (((gi ||| (ri &&& ~~~ki)).toNat:Nat):Int)) (y:=(gi ||| (ri &&& ~~~ki))) rfl rfl (p9 ay1).choose_spec.1 (by rw[←C8 (p9 ay1).choose_spec.1];exact bC4);rw[hsu]at o5;simp only[H8,simprocAttr,h70];refine C2 (fun w3=>w3=w11.drew) 25 (B0 [0,1,2,3,4,5,6,7,8,9,10,11,12,13,14,15,16,17,18,19,20,21,22,23,24]) (by decide +kernel) rfl ?_;simp only[D5,B0,H8,zVB,v8,simprocAttr,j16,j1,j15,d0,ing];refine⟨xg,fun w3 e=>by subst e;exact hld1,?_⟩;simp only[D5,H8,zVB,v8,simprocAttr,y1];refine⟨.int .u64 (gi.toNat:Nat),fun w3 e=>by subst e;exact v1,?_⟩;simp only[D5,H8,zVB,v8,simprocAttr,j11,j15,d0,inr];refine⟨ua.v,fun w3 e=>by subst e;exact hld3,?_⟩;simp only[D5,H8,zVB,v8,simprocAttr,y3];refine⟨.int .u64 (ri.toNat:Nat),fun w3 e=>by subst e;exact v3,?_⟩;simp only[D5,H8,zVB,v8,simprocAttr,j2,j15,d0,ink];refine⟨xk,fun w3 e=>by subst e;exact hld2,?_⟩;simp only[D5,H8,zVB,v8,simprocAttr,y2];refine⟨.int .u64 (ki.toNat:Nat),fun w3 e=>by subst e;exact v2,?_⟩;simp only[D5,H8,zVB,v8,simprocAttr,b1,b2,ingi,t4,h70,q6];exact⟨i+1,by omega,by trivial,by omega,o5,(hog.ext hd).ext2 (hx11.trans hd) m5⟩
      ·have hge2:i=m:=by simp at hc;omega
       subst hge2;clear hua ing ink inr hxg hxk hcg' hck';have hgB:∀f,N4 (X4 g (wAt ins a) kk i i) f=true↔bD6 gl kl ins a f:=by
        intro f;rw[hgoes f,eJ0,ey9,Bool.not_eq_true',hg3 f];have h8:=hk3 f;unfold bD6 ah1;constructor
        ·rintro(h|⟨h9,h10⟩)
         ·exact .inl h
         ·exact .inr ⟨h9,fun h11=>by rw[h8.2 h11]at h10;cases h10⟩
        ·rintro(h|⟨h9,h10⟩)
         ·exact .inl h
         ·refine .inr ⟨h9,?_⟩;cases e:N4 kk f
          ·rfl
          ·exact absurd (h8.1 e) h10
       have hgs':∀f,N4 (X4 g (wAt ins a) kk i i) f=true→f<most∧∀b∈C3 nx a,ar6 nx gl kl b f:=by
        intro f hf;rcases(hgB f).1 hf with h|⟨h1,h2⟩
        ·refine⟨?_,fun b hb=>.gen hb h⟩;have:=hfg _ (ao2 (nx:=gl) (by rw[hgn];exact hka)) _ h;omega
        ·exact⟨si.low a f hka h1,fun b hb=>.step hb (si.sound a f hka h1) h2⟩
       have hglen:(X4 g (wAt ins a) kk i i).length=most / 64+1:=by rw[an1,hm6,hmm]
       have sj0:=si.pop hgB;have st11:=st3.more hx11;have hog0:=hog.down (b7 st3.ext);have hgr11:=hgr.mono (b7 st11.ext);have hfo:∀b,A4 ug b→w9.heap.size≤b:=fun b hb=>f4 b hb;generalize X4 g (wAt ins a) kk i i=gw at *;simp only[H8,simprocAttr,j0,j15];refine z6 ej0 (cp9 pg nx pv a w11 hgr11 (by rw[hgg.pv.len]) (fun x hx=>ex3 (hgood.row_len hx) (by omega))) ?_;rintro un w12 ⟨hon,hx12⟩;have Sn:=hon.isS;have nn:=hon.vlen;have st12:=st11.more hx12;have hog12:=hog0.ext hx12;have hon0:=hon.down (b7 st11.ext);have hfn:∀b,A4 un b→w11.heap.size≤b:=fun b hb=>st12.ge' (hon.free hb);have hrowlen:(C3 nx a).length≤nx.length:=hgood.rowlen a;simp only[H8,N3,O8,simprocAttr,Sn,nn];refine n7 [0,1,2,3,8,9,10,11,13,15,16,102,103] (σ:=Nat) (fun k f w'=>f 104 = .int .i64 k∧k≤(C3 nx a).length∧∃ins' todo' waits',ST w w' rb gb ui uw (f 12) us ins' waits' todo' T1∧SJ nx gl kl most a gw k ins' todo' waits' (T+1)∧todo'.length+aD1 most ins≤rest.length+aD1 most ins'∧o9 (fun b=>K7 ui us b∨A4 uw b∨A4 vt2 b∨w12.heap.size≤b) w12 w'∧∀b,A4 (f 12) b→A4 vt2 b∨w12.heap.size≤b) (fun k=>(C3 nx a).length-k) 0 (by decide +kernel) ?_ ?_
       ·simp only[p7,simprocAttr];simp only[j12];exact⟨by trivial,ex6 _,ins,rest,_,st12,sj0,ex9 _,o9.refl _,fun b hb=>.inl hb⟩
       ·rintro k f w13 hk ⟨h104,hkl,ins',todo',waits',st',sj,hpot,hmod,hq12⟩;simp only[ew6,p7,simprocAttr]at hk;simp only[j0,j1,j2,j3,j8,j9,j10,j11,j13,j15,j16]at hk;obtain⟨k0,k1,k2,k3,k8,k9,k10,k11,k13,k15,k16,k102,k103,_⟩:=hk;generalize hvk12:f 12=vk12 at *;simp only[H8,B9,E6,simprocAttr,h104,k103];refine i5 (fun hc=>?_) (fun hc=>?_)
        ·have hkt:k<(C3 nx a).length:=by simpa using hc
         have hNg:∀b,A4 ug b→¬(K7 ui us b∨A4 uw b∨A4 vt2 b∨w12.heap.size≤b):=fun b hb hh=>by
          have h1:=hfo b hb;rcases hh with hh|hh|hh|hh
          ·have:=st3.rows.lt hh;omega
          ·have:=st3.wts.lt hh;omega
          ·have:=st3.q.lt hh;omega
          ·have:=hog12.lt hb;omega
         have hNn:∀b,A4 un b→¬(K7 ui us b∨A4 uw b∨A4 vt2 b∨w12.heap.size≤b):=fun b hb hh=>by
          have h1:=hfn b hb;have h2:=hx11.size;rcases hh with hh|hh|hh|hh
          ·have:=st3.rows.lt hh;omega
          ·have:=st3.wts.lt hh;omega
          ·have:=st3.q.lt hh;omega
          ·have:=hon0.lt hb;omega
         have hog13:=hog12.mod hmod hNg;have hon13:=hon0.mod hmod hNn;have hrn:=hon13.rw_ (b7 st'.ext);have ik:=hrn.inS hkt;have ldk:=M5 (P:=prog) (t:=3) hrn (i4 _) (ew4 hkt) F2;simp only[I7.val]at ldk;have hbat:(C3 nx a)[k]?=some (C3 nx a)[k]:=ew4 hkt;have hbok:=(hgood.row a).2 _ (ex8 hkt);generalize(C3 nx a)[k]=b at ldk hbat hbok;have hbok':=C7.1 hbok;have db:decide (0≤b)=true:=by simpa using hbok'.1
         have hbl:b.toNat<nx.length:=by omega
         have hub:us[b.toNat]?=some (us[b.toNat]'(by omega)):=ew4 _;generalize us[b.toNat]'(by omega)=ub at hub;have inb:=st'.rows.outer.inS (k:=b.toNat) (by omega);have ldb:=aG4 (P:=prog) (t:=275) st'.rows hub aL7;have hrb':=ag4 sj.ilen hbok;have hrow:=st'.rows.row _ _ _ hub hrb';have hrlen:(wAt ins' b).length=gw.length:=by rw[hglen];exact sj.rlen _ (ey5 hrb')
         have hle0:B4 (d7 w) (aI1 w13 ub.v):=fun x o e=>by
          have hn:¬A4 ub.v x:=fun hb2=>by rw[hrow.free hb2]at e;cases e
          rw[aF4 hn];exact b7 st'.ext x o e
         have hrowB:=hrow.rebase (b7 st'.ext);have hdj:∀x,A4 ug x→¬A4 ub.v x:=fun x hx hx2=>hNg x hx (.inl (.inr ⟨ub,ey5 hub,hx2⟩));have hRg:=hog13.beside (v:=ub.v) hle0 hdj;have q6:B9 prog .add 3 (.int .i64 k) (.int .i64 1)=some (.int .i64 ((k+1:Nat):Int)):=by
          simp only[B9,E6,eC9];rw[B2 k (by omega)]
         simp only[H8,N3,v8,simprocAttr,h104,k102,k11,k16,ik,ldk,db,inb,ldb];refine z6 ej1 (cy4 (aI1 w13 ub.v) ub.v ug (wAt ins' b) gw w13 hrowB (cw2 w13 ub.v) hRg hrlen (by rw[hrlen,hglen];omega)) ?_;rintro rj w14 ⟨hrj,ho14,hm14⟩;have ho14':=ho14.down hle0;have st14:=st'.row hub hm14 ho14';have hN14:o9 (fun b=>K7 ui us b∨A4 uw b∨A4 vt2 b∨w12.heap.size≤b) w12 w14:=hmod.trans (hm14.weaken fun x _ hx=>.inl (.inr ⟨ub,ey5 hub,hx⟩));obtain⟨hp1,hp2⟩:=sj.pot hglen hgs' hbok;have inwb:=st14.wts.inS (k:=b.toNat) (by rw[sj.wlen];exact hbl);have hwb:=M0 (l:=waits') (b:=b) (by rw[sj.wlen];exact hbok);have hwat:waits'[b.toNat]?=some (B5 waits' b):=by
          rw[hwb.2];simp[List.getD,hwb.1]
         have ldw:=D4 (P:=prog) (t:=4) st14.wts hwat ah6;simp only[I7.val]at ldw;generalize hmo:ad3 (wAt ins' b) gw=mo at *;generalize hwbb:B5 waits' b=wb at *;subst hrj;cases mo
         ·have sj':=sj.old hgood hglen hgs' hbat hbok (.inl hmo);simp only[H8,simprocAttr,h104,q6];exact⟨k+1,by omega,by trivial,by omega,_,_,_,by simpa only[hvk12]using st14,sj',by omega,hN14,by simpa only[hvk12]using hq12⟩
         ·cases wb
          ·have sj':=sj.new hgood hglen hgs' hbat hbok hmo hwbb;obtain⟨w15,t5,st15,m15⟩:=st14.wait2 (P:=prog) (t:=4) (k:=b.toNat) (by rw[sj.wlen];exact hbl) true (p9 S1).choose_spec.1 (by rw[←C8 (p9 S1).choose_spec.1];exact aD9);have htl:todo'.length+1≤100000000:=by
            have:=sj.few;have h8:=aP6 most ins';rw[sj.ilen]at h8;omega
           obtain⟨p1,v',w16,p2,st16,m16,mv16⟩:=st15.push2 (P:=prog) (t:=112) (e:=112) ac7 b (by omega) (by omega);have hN16:o9 (fun b=>K7 ui us b∨A4 uw b∨A4 vt2 b∨w12.heap.size≤b) w12 w16:=(hN14.trans (m15.weaken fun x _ hx=>.inr (.inl hx))).trans (m16.weaken fun x _ hx=>by
            rcases hq12 x hx with h|h
            ·exact .inr (.inr (.inl h))
            ·exact .inr (.inr (.inr h)))
           have hsz15:=(hN14.trans (m15.weaken fun x _ hx=>.inr (.inl hx))).size;have hq16:∀x,A4 v' x→A4 vt2 x∨w12.heap.size≤x:=fun x hx=>by
            rcases mv16 x hx with h|h
            ·exact hq12 x h
            ·exact .inr (by omega)
           simp only[H8,zVB,unV,v8,simprocAttr,h104,k13,db,inwb,ldw,q6,t5,hvk12,p1,p2];exact⟨k+1,by omega,by trivial,by omega,_,_,_,st16,sj',by simp only[ew7,ey7,eC7];have:=hp2 rfl;omega,hN16,hq16⟩
          ·have sj':=sj.old hgood hglen hgs' hbat hbok (.inr hwbb);simp only[H8,zVB,unV,v8,simprocAttr,h104,k13,db,inwb,ldw,q6];exact⟨k+1,by omega,by trivial,by omega,_,_,_,by simpa only[hvk12]using st14,sj',by omega,hN14,by simpa only[hvk12]using hq12⟩
        ·have hge3:k=(C3 nx a).length:=by simp at hc;omega
         subst hge3;have si':=sj.fin rfl;simp only[H8,simprocAttr];have hpl':=aP6 most ins';rw[si'.ilen]at hpl';exact⟨(ins',todo'),by simp only[cY2,ey7];omega,waits',T+1,by rw[hT1];simpa only[hvk12]using st',si'⟩
    ·have hnil:todo=[]:=by
      cases todo with
      | nil=>rfl
      | cons x rest=>simp at hc
     subst hnil;obtain⟨hfin,hT1,hT2⟩:=si.fin hgood;have Si:=st.rows.outer.isS;have lus:us.length=nx.length:=by rw[st.rows.len,si.ilen]
     have ni:vlen ui=nx.length:=by rw[st.rows.outer.vlen,lus]
     have hgb0:rb<w7.heap.size:=st.lr;have hgb1:gb<w7.heap.size:=st.lg;have hRl:∀b,K7 ui us b→b<w7.heap.size:=fun b hb=>st.rows.lt hb;have hrows7:=st.rows;have hd1:∀b,K7 ui us b→b≠gb∧b≠rb:=fun b hb=>(st.d1 b hb).2.2;have hd4:=st.d4;have hfg':=st.fg;have hfr':=st.frb;simp only[H8,N3,O8,simprocAttr,i11,Si,ni];refine n7 [0,1,2,3,8,9,10,11,129,130] (σ:=Nat) (fun k f w'=>f 131 = .int .i64 k∧k≤nx.length∧(∃vin,w'.heap[gb]?=some (.cells #[vin,.int .i64 (T:Nat)] 189 (0,0))∧A9 (B8 w' (fun b=>A4 vin b∨b<w7.heap.size)) w' 112 vin ((ins.take k).map fun r=>Y1 r most)∧∀b,A4 vin b→w7.heap.size≤b) ∧
      w'.heap[rb]?=some (.cells #[.slice none 0 0,.int .i64 0] 189 (0,0))∧K5 (d7 w) w' 275 220 ui us ins∧o6 w w'∧w7.heap.size≤w'.heap.size) (fun k=>nx.length-k) 0 (by decide +kernel) ?_ ?_
     ·simp only[p7,simprocAttr];exact⟨by trivial,ex6 _,⟨_,st.cg,A9.nil _ _ _,fun b hb=>absurd hb D0⟩,st.cr,hrows7,st.ext,ex9 _⟩
     ·rintro k f w8 hk ⟨h131,hkl,⟨vin,cg,hov,hfv⟩,cr,hrows,hx,hsz⟩;simp only[ew6,p7,simprocAttr]at hk;simp only[i0,i1,i2,i3,i8,i9,i10,i11]at hk;obtain⟨j0,j1,j2,j3,j8,j9,j10,j11,j129,j130,_⟩:=hk;simp only[H8,B9,E6,simprocAttr,h131,j130];refine i5 (fun hc=>?_) (fun hc=>?_)
      ·have hkt:k<nx.length:=by simpa using hc
       have q6:B9 prog .add 3 (.int .i64 k) (.int .i64 1)=some (.int .i64 ((k+1:Nat):Int)):=by
        simp only[B9,E6,eC9];rw[B2 k (by omega)]
       have hua:us[k]?=some (us[k]'(by omega)):=ew4 _;generalize us[k]'(by omega)=ua at hua;have hra:ins[k]?=some (ins[k]'(by rw[si.ilen];exact hkt)):=ew4 _;have htk:(ins.take (k+1)).map (fun r=>Y1 r most)=(ins.take k).map (fun r=>Y1 r most)++[Y1 (ins[k]'(by rw[si.ilen];exact hkt)) most]:=by
        rw[ex2 (by rw[si.ilen];exact hkt),ez5];rfl
       have hrl:=si.rlen _ (ey5 hra);generalize ins[k]'(by rw[si.ilen];exact hkt)=r at hra htk hrl;have hd:=o6.drew w8;have cgd:=(hd.block gb (ex0.1 cg).1 id).trans cg;have crd:=(hd.block rb (ex0.1 cr).1 id).trans cr;have hrowsd:=hrows.ext hd;have hxd:=hx.trans hd;have ink:=hrows.outer.inS (k:=k) (by omega);have gbl:=(ex0.1 cgd).1;have rbl:=(ex0.1 crd).1;have hRrow:=(hrowsd.row _ _ _ hua hra).rw_ (b7 hxd);have hovd:=hov.noMod hd (fun b h=>h.elim) (fun b _ h=>h) (N':=fun b=>A4 vin b∨b<w7.heap.size) (fun b h=>.inl h) (fun b h=>.inl h);generalize hwd:w8.drew=wd at *;have hszd:w7.heap.size≤wd.heap.size:=ex3 hsz hd.size;simp only[H8,simprocAttr,h131];refine C2 (fun w2=>o6 wd w2) 9 (B0 [0,1,2,3,4,5,6,7,8]) (by decide +kernel) (by rw[hwd];exact o9.refl _) ?_;rw[hwd];simp only[D5,B0,H8,N3,simprocAttr,j9];refine⟨vin,fun w2 e=>F0 (i:=0) ((e.block gb gbl id).trans cgd) rfl Q9,?_⟩;simp only[D5,H8,N3,v8,simprocAttr,j11,ink];refine⟨ua.v,fun w2 e=>aG4 (hrowsd.ext e) hua aL7,?_⟩;simp only[D5,H8,simprocAttr,j3];refine z6 ej2 (cz3 ua.v r most wd hRrow (by omega) (fun f hf=>by rw[hrl];have:=Nat.div_le_div_right (c:=64) (Nat.le_of_lt hf);omega)) ?_;rintro ul w9 ⟨hol,hx9⟩;have Sl:=hol.isS;have hNb:∀b,A4 ul b→¬(A4 vin b∨b<w7.heap.size):=fun b hb hh=>by
        have h1:wd.heap.size≤b:=by
         have:=hol.free hb;exact eJ4 fun hlt=>by simp[d7,hlt]at this
        rcases hh with hh|hh
        ·have:=hovd.lt hh;omega
        ·omega
       have hov9:=hovd.noMod hx9 (fun b h=>h.elim) (fun b _ h=>h) (N':=fun b=>A4 vin b∨b<w7.heap.size) (fun b h=>.inl h) (fun b h=>.inl h);have hRl9:=(hol.down (h:=B8 wd (fun b=>A4 vin b∨b<w7.heap.size)) (B3 _ _)).roNo (G6 hx9 (fun b h=>h.elim) (N':=fun b=>A4 vin b∨b<w7.heap.size) fun b h=>.inl h) hNb;obtain⟨p1,v',w10,p2,p3,p4,p5⟩:=push (P:=prog) (t:=153) (e:=153) bV3 rfl hov9 (x:=ul) (y:=Y1 r most) (by rw[D9 Sl];exact hRl9) (by simp;omega) (by simp;omega) (B3 _ _);rw[D9 Sl]at p1 p2;have hgv:¬A4 vin gb:=fun h=>by have:=hfv gb h;omega
       have hrv:¬A4 vin rb:=fun h=>by have:=hfv rb h;omega
       have cg9:=(hx9.block gb gbl id).trans cgd;have cr9:=(hx9.block rb rbl id).trans crd;have cg10:=(p4.block gb (ex0.1 cg9).1 hgv).trans cg9;have cr10:=(p4.block rb (ex0.1 cr9).1 hrv).trans cr9;have Sv:=p3.isS;obtain⟨w11,t6,cg11,m11⟩:=ai0 (P:=prog) (t:=153) (i:=0) (x:=v') cg10 (by simp) (D9 Sv) (V4 Sv) (p9 cI4).choose_spec.1 (by rw[←C8 (p9 cI4).choose_spec.1];exact cH9);have cr11:=(m11.block rb (ex0.1 cr10).1 (fun h=>hd4 h.symm)).trans cr10;have hfv':∀b,A4 v' b→w7.heap.size≤b:=fun b hb=>by
        rcases p5 b hb with h|h
        ·exact hfv b h
        ·have:=hx9.size;omega
       have hov11:A9 (B8 w11 (fun b=>A4 v' b∨b<w7.heap.size)) w11 112 v' ((ins.take k).map (fun r=>Y1 r most)++[Y1 r most]):=by
        have h1:A9 (B8 w10 (fun b=>A4 v' b∨b<w7.heap.size)) w10 112 v' ((ins.take k).map (fun r=>Y1 r most)++[Y1 r most]):=
         p3.reNo (G6 p4 (fun b h=>.inl h) fun b h=>by
          rcases h with h|h
          ·rcases p5 b h with h|h
           ·exact .inl (.inl h)
           ·exact .inr h
          ·exact .inl (.inr h)) fun b h=>.inl h
        exact h1.noMod m11 (fun b h=>.inr (by subst h;exact hgb1)) (fun b hb h=>by subst h;have:=hfv' b hb;omega) (fun b h=>.inl h) (fun b h=>.inl h)
       have hrows11:=((hrowsd.ext hx9).mod p4 (fun b hb hb2=>by have:=hRl b hb;have:=hfv b hb2;omega)).mod m11 (fun b hb h=>(hd1 b hb).1 h);have hx11:o6 w w11:=o9.ext_of (o9.ext_of (hxd.trans hx9) p4 fun b hb=>by have:=hfv b hb;have:=st.ext.size;omega) m11 fun b hb=>by subst hb;exact hfg'
       have hsz11:w7.heap.size≤w11.heap.size:=ex3 hszd (ex3 hx9.size (ex3 p4.size m11.size));simp only[D5,H8,simprocAttr,F6,p1];refine⟨hx9,hx9.trans (o6.alloc w9 _),?_⟩;simp only[H8,zVB,simprocAttr,p2,j9,t6,h131,q6];refine⟨k+1,by omega,by trivial,by omega,⟨v',?_,?_,hfv'⟩,cr11,hrows11,hx11,hsz11⟩
       ·simpa using cg11
       ·rw[htk];exact hov11
      ·have hge4:k=nx.length:=by simp at hc;omega
       subst hge4;rw[eA6 (by rw[si.ilen];exact ex9 _)]at hov;have hlda:=R2 (P:=prog) cg bl7 bm4 bm0 (by rw[aa0];rfl);have Sv:=hov.isS;have hone:∀u∈(#[vin,Value.int .i64 (T:Nat)]:Array Value).toList,u.oneCell'=true:=by
        intro u hu;simp at hu;rcases hu with rfl|rfl
        ·exact V4 Sv
        ·rfl
       obtain⟨w9,t7,cr9,m9⟩:=ab3 (P:=prog) cr aW5 (by rw[aa0];rfl) (cs:=#[vin,.int .i64 (T:Nat)]) (by rw[aa0];rfl) hone;have hov9:=hov.noMod m9 (fun b h=>.inr (by subst h;exact hgb0)) (fun b hb h=>by subst h;have:=hfv b hb;omega) (N':=fun b=>A4 vin b∨b<w7.heap.size) (fun b h=>.inl h) (fun b h=>.inl h);have hR9:R (B8 w9 (fun b=>b<w.heap.size)) vin (ins.map fun r=>Y1 r most):=hov9.ro (fun b o e=>by
        by_cases h:b<w7.heap.size
        ·rw[H3 (.inr h)]at e;cases e
        ·by_cases h2:A4 vin b
         ·rw[H3 (.inl h2)]at e;cases e
         ·rw[D3 (fun hh=>hh.elim h2 h)]at e;rw[D3 (by have:=st.ext.size;omega)];exact e) fun b hb=>D3 (by have:=hfv b hb;have:=st.ext.size;omega)
       have hlda9:=R2 (P:=prog) cr9 bl7 bm4 bm0 (by rw[aa0];rfl);have hx9:o6 w w9:=o9.ext_of hx m9 fun b hb=>by subst hb;exact hfr'
       simp only[H8,simprocAttr,j8,j9,hlda,t7];refine L0 results198 (ad:=⟨rb,0,none⟩) (by simp only[p7,↓reduceIte,Nat.reduceEqDiff];exact j8) hlda9 ?_;simp only[hrb]at hR9;refine⟨⟨vin,ins.map fun r=>Y1 r most,T,rfl,hR9,by rw[ex7,si.ilen],fun b hb=>⟨N4 (wAt ins b),?_,fun i=>hfin b i hb⟩,hT1,hT2⟩,hx9⟩;have h1:=ag4 si.ilen hb;have hlen:(ins.map fun r=>Y1 r most).length=nx.length:=by rw[ex7,si.ilen]
       have h2:=(ak3 (nx:=ins.map fun r=>Y1 r most) (a:=b) (by rw[hlen];exact hb)).1;rw[eA3,h1]at h2;exact(ey4 h2).symm
theorem dd9:ag0 prog 197=true:=by kernel_rfl
theorem eh7:ag0 prog 198=true:=by kernel_rfl
structure cq1 (n:Int) (steps:List (Int×Int)) (gl kl:List (List Int)) (most:Int):Prop where
 n0:0≤n
 n5:n≤5000
 m0:0≤most
 m5:most≤5000
 gn:(gl.length:Int)=n
 kn:(kl.length:Int)=n
 st:∀s∈steps,aW8 n.toNat s
 gf:aN3 gl most.toNat
 kf:aN3 kl most.toNat
structure dD1 (nx gl kl:List (List Int)) (most:Nat) (sol:List (List Int)) (T:Nat):Prop where
 len:sol.length=nx.length
 row:∀b,G9 nx.length b=true→∃f:Nat→Bool,C3 sol b=((List.range most).filter f).map (fun(i:Nat)=>(i:Int))∧∀i,f i=true↔ar6 nx gl kl b i
 lo:nx.length≤T
 hi:T≤nx.length+nx.length*most
theorem ar0{P:Program}{fn:Func}{R:Value→World→Prop}{f:Fr}{w:World}{v:Value}{a t:Nat}{ty:TypeId}{ad:Addr}(h:fn.results=#[.cell a ty,.tmp t])(hf:f a = .pointer (some ad))(hl:(Instr.loadAt ty (.pointer (some ad))).run P w = .ok v w)(hR:R (.tuple #[v,f t]) w):bn3 P fn R .ret f w:=by
 refine⟨[v,f t],?_,hR⟩;rw[h];refine⟨?_,rfl,trivial⟩;show(do loadVar ty (←asAddr (f a)):Sem Value).run P w = .ok v w;rw[hf];exact hl
theorem ci2:C0 prog 189 []=some (.agg #[.slice none 0 0,.int .i64 0]):=by
 first
 | (simp[C0,cH2,J3,Instr.fill];done)
 | rfl
theorem cA6(n most:Int)(gl kl:Nat):
  (decide (n<0)=true∧n<0)∨(decide (n<0)=false∧decide (n>5000)=true∧n>5000) ∨
  (decide (n<0)=false∧decide (n>5000)=false∧decide (most<0)=true∧most<0)∨(decide (n<0)=false∧decide (n>5000)=false∧decide (most<0)=false∧decide (most>5000)=true∧most>5000) ∨
  (decide (n<0)=false∧decide (n>5000)=false∧decide (most<0)=false∧decide (most>5000)=false∧((gl:Int) != n)=true∧(gl:Int)≠n) ∨
  (decide (n<0)=false∧decide (n>5000)=false∧decide (most<0)=false∧decide (most>5000)=false∧((gl:Int) != n)=false∧((kl:Int) != n)=true∧(kl:Int)≠n) ∨
  (decide (n<0)=false∧decide (n>5000)=false∧decide (most<0)=false∧decide (most>5000)=false∧((gl:Int) != n)=false∧((kl:Int) != n)=false∧0≤n∧n≤5000∧0≤most∧most≤5000∧(gl:Int)=n∧(kl:Int)=n):=by
 by_cases h1:n<0
 ·exact .inl ⟨by simpa using h1,h1⟩
 ·have e1:decide (n<0)=false:=by simpa using h1
  by_cases h2:n>5000
  ·exact .inr (.inl ⟨e1,by simpa using h2,h2⟩)
  ·have e2:decide (n>5000)=false:=by simpa using h2
   by_cases h3:most<0
   ·exact .inr (.inr (.inl ⟨e1,e2,by simpa using h3,h3⟩))
   ·have e3:decide (most<0)=false:=by simpa using h3
    by_cases h4:most>5000
    ·exact .inr (.inr (.inr (.inl ⟨e1,e2,e3,by simpa using h4,h4⟩)))
    ·have e4:decide (most>5000)=false:=by simpa using h4
     by_cases h5:(gl:Int)=n
     ·have e5:((gl:Int) != n)=false:=by simpa using h5
      by_cases h6:(kl:Int)=n
      ·exact .inr (.inr (.inr (.inr (.inr (.inr ⟨e1,e2,e3,e4,e5,by simpa using h6,by omega,by omega,by omega,by omega,h5,h6⟩)))))
      ·exact .inr (.inr (.inr (.inr (.inr (.inl ⟨e1,e2,e3,e4,e5,by simpa using h6,h6⟩)))))
     ·exact .inr (.inr (.inr (.inr (.inl ⟨e1,e2,e3,e4,by simpa using h5,h5⟩))))
theorem df5(n most:Int)(v vg vk:Value)(steps:List (Int×Int))(gl kl:List (List Int))(w:World)(hv:R (d7 w) v steps)(hvg:R (d7 w) vg gl)(hvk:R (d7 w) vk kl)(hsl:steps.length≤1000000)
  (hgl:∀x∈gl,x.length≤1000000000) (hkl:∀x∈kl,x.length≤1000000000) :
  Calls prog 136 #[.int .i64 n,v,vg,vk,.int .i64 most] w fun e w'=>∃u,e = .returned u∧((∃vs ok,u = .tuple #[vs,.bool ok] ∧
   (ok=true→cq1 n steps gl kl most∧∃vi sol T,vs = .agg #[vi,.int .i64 (T:Nat)]∧R (B8 w' (fun b=>b<w.heap.size)) vi sol∧dD1 (ah2 n.toNat steps).1 gl kl most.toNat sol T) ∧
   (ok=false→¬cq1 n steps gl kl most∧vs = .agg #[.slice none 0 0,.int .i64 0]))∧o6 w w'):=by
 refine d9 (args:=[.int .i64 n,v,vg,vk,.int .i64 most]) hm func136 rfl (by kernel_rfl) (by show 5≤_;decide +kernel) ?_;have hal:=bp9;have hbs:=ci2;have hSg:=hvg.isS;have hng:=hvg.vlen;have hSk:=hvk.isS;have hnk:=hvk.vlen;have hS:=hv.isS;have hvn:=hv.vlen;have c1:(w.alloc (.cells #[.slice none 0 0,.int .i64 0] 189)).heap[w.heap.size]?=some (.cells #[.slice none 0 0,.int .i64 0] 189 (0,0)):=eA5 w _;have x1:=o6.alloc w (.cells #[.slice none 0 0,.int .i64 0] 189);generalize hw1:w.alloc (.cells #[.slice none 0 0,.int .i64 0] 189)=w1 at *;have hal1:=hal w;rw[hw1]at hal1;generalize hrb:w.heap.size=rb at c1 hal1;have hrl:rb<w1.heap.size:=(ex0.1 c1).1;have early:∀w2,o6 w w2→w2.heap[rb]?=some (.cells #[.slice none 0 0,.int .i64 0] 189 (0,0))→∃w3,(Instr.storeAt 189 (.pointer (some ⟨rb,0,none⟩)) (.agg #[.slice none 0 0,.int .i64 0])).run prog w2 = .ok () w3∧o6 w w3 ∧
   (Instr.loadAt 189 (.pointer (some ⟨rb,0,none⟩))).run prog w3 = .ok (.agg #[.slice none 0 0,.int .i64 0]) w3:=by
  intro w2 hx2 hc2;obtain⟨w3,t1,t2,t3⟩:=ab3 (P:=prog) hc2 aW5 (by rw[aa0];rfl) (cs:=#[.slice none 0 0,.int .i64 0]) (by rw[aa0];rfl) (by simp[Value.oneCell']);exact⟨w3,t1,o9.ext_of hx2 t3 fun b hb=>by subst hb;omega,R2 (P:=prog) t2 bl7 bm4 bm0 (by rw[aa0];rfl)⟩
 obtain⟨w3,e1,e2,e3⟩:=early w1 x1 c1;rcases cA6 n most gl.length kl.length with⟨d1,hb⟩|⟨d1,d2,hb⟩|⟨d1,d2,d3,hb⟩|⟨d1,d2,d3,d4,hb⟩|⟨d1,d2,d3,d4,d5,hb⟩|⟨d1,d2,d3,d4,d5,d6,hb⟩|⟨d1,d2,d3,d4,d5,d6,hn0,hn5,hm0,hm5,hgn,hkn⟩
 ·simp only[H8,N3,B9,E6,simprocAttr,hal1,d1,hbs,e1];refine ar0 results136 (ad:=⟨rb,0,none⟩) (by simp only[p7,↓reduceIte,Nat.reduceEqDiff]) e3 ?_;simp only[p7,simprocAttr];exact⟨⟨_,false,rfl,(fun h=>(by cases h)),fun _=>⟨fun h=>by have:=h.n0;omega,rfl⟩⟩,e2⟩
 ·simp only[H8,N3,B9,E6,simprocAttr,hal1,d1,d2,hbs,e1];refine ar0 results136 (ad:=⟨rb,0,none⟩) (by simp only[p7,↓reduceIte,Nat.reduceEqDiff]) e3 ?_;simp only[p7,simprocAttr];exact⟨⟨_,false,rfl,(fun h=>(by cases h)),fun _=>⟨fun h=>by have:=h.n5;omega,rfl⟩⟩,e2⟩
 ·simp only[H8,N3,B9,E6,simprocAttr,hal1,d1,d2,d3,hbs,e1];refine ar0 results136 (ad:=⟨rb,0,none⟩) (by simp only[p7,↓reduceIte,Nat.reduceEqDiff]) e3 ?_;simp only[p7,simprocAttr];exact⟨⟨_,false,rfl,(fun h=>(by cases h)),fun _=>⟨fun h=>by have:=h.m0;omega,rfl⟩⟩,e2⟩
 ·simp only[H8,N3,B9,E6,simprocAttr,hal1,d1,d2,d3,d4,hbs,e1];refine ar0 results136 (ad:=⟨rb,0,none⟩) (by simp only[p7,↓reduceIte,Nat.reduceEqDiff]) e3 ?_;simp only[p7,simprocAttr];exact⟨⟨_,false,rfl,(fun h=>(by cases h)),fun _=>⟨fun h=>by have:=h.m5;omega,rfl⟩⟩,e2⟩
 ·simp only[H8,N3,B9,E6,O8,simprocAttr,hal1,hSg,hng,d1,d2,d3,d4,d5,hbs,e1];refine ar0 results136 (ad:=⟨rb,0,none⟩) (by simp only[p7,↓reduceIte,Nat.reduceEqDiff]) e3 ?_;simp only[p7,simprocAttr];exact⟨⟨_,false,rfl,(fun h=>(by cases h)),fun _=>⟨fun h=>hb h.gn,rfl⟩⟩,e2⟩
 ·simp only[H8,N3,B9,E6,O8,simprocAttr,hal1,hSg,hng,hSk,hnk,d1,d2,d3,d4,d5,d6,hbs,e1];refine ar0 results136 (ad:=⟨rb,0,none⟩) (by simp only[p7,↓reduceIte,Nat.reduceEqDiff]) e3 ?_;simp only[p7,simprocAttr];exact⟨⟨_,false,rfl,(fun h=>(by cases h)),fun _=>⟨fun h=>hb h.kn,rfl⟩⟩,e2⟩
 ·clear e1 e2 e3 w3;simp only[H8,N3,B9,E6,O8,simprocAttr,hal1,hSg,hng,hSk,hnk,d1,d2,d3,d4,d5,d6,hS,hvn];obtain⟨N,hN⟩:∃N:Nat,n=N:=⟨n.toNat,by omega⟩;obtain⟨M,hM⟩:∃M:Nat,most=M:=⟨most.toNat,by omega⟩;have hNt:n.toNat=N:=by omega
  have hMt:most.toNat=M:=by omega
  have hbad:∀e:Int×Int,bn7 n e=false↔aW8 N e:=fun e=>by rw[hN];exact bP5
  refine n7 [0,1,2,3,4,10,45,46] (σ:=Nat) (fun k f w'=>f 47 = .int .i64 k∧k≤steps.length∧(∀e∈steps.take k,aW8 N e)∧o6 w1 w') (fun k=>steps.length-k) 0 (by decide +kernel) ?_ ?_
  ·simp only[p7,simprocAttr];exact⟨by first|rfl|trivial,ex6 _,by simp,o9.refl _⟩
  ·rintro k f w2 hk ⟨h47,hkle,hdone,hx⟩;simp only[ew6,p7,simprocAttr]at hk;obtain⟨e0,e1,e2,e3,e4,e10,e45,e46,_⟩:=hk;simp only[H8,B9,E6,simprocAttr,h47,e46];refine i5 (fun hc=>?_) (fun hc=>?_)
   ·have hlt:k<steps.length:=by simpa using hc
    have hin:=hv.inS hlt;have hld:=ldP hv (b7 (x1.trans hx)) (ew4 hlt);have hmem:steps[k]∈steps:=ex8 hlt;have htk:steps.take (k+1)=steps.take k++[steps[k]]:=ex2 hlt;generalize steps[k]=e at hld hmem htk;obtain⟨x,y⟩:=e;simp only at hld;obtain⟨p1,p2⟩:=cZ0 w2 x y;have q0:=cY8 w2 x y;have q1:=cY9 w2 x y;have hx3:=hx.trans (o6.alloc w2 (.cells #[.int .i64 x,.int .i64 y] 128));generalize w2.alloc (.cells #[.int .i64 x,.int .i64 y] 128)=w3 at *;obtain⟨w4,g1,g2,g3⟩:=early w3 (x1.trans hx3) ((hx3.block rb hrl id).trans c1);have hnb:∀{b:Bool},bn7 n (x,y)=true→¬cq1 n steps gl kl most:=fun hb h=>by
     have h2:=h.st (x,y) hmem;rw[hNt]at h2;have:=(hbad (x,y)).2 h2;rw[hb]at this;cases this
    rcases ch6 n x y with⟨r1,hb⟩|⟨r1,r2,hb⟩|⟨r1,r2,r3,hb⟩|⟨r1,r2,r3,r4,hb⟩|⟨r1,r2,r3,r4,hb⟩
    case' inl=>simp only[H8,N3,B9,E6,v8,simprocAttr,h47,e45,hin,hld,p1,p2,q0,r1,e10,hbs,g1]
    case' inr.inl=>simp only[H8,N3,B9,E6,v8,simprocAttr,h47,e45,e0,hin,hld,p1,p2,q0,r1,r2,e10,hbs,g1]
    case' inr.inr.inl=>simp only[H8,N3,B9,E6,v8,simprocAttr,h47,e45,e0,hin,hld,p1,p2,q0,q1,r1,r2,r3,e10,hbs,g1]
    case' inr.inr.inr.inl=>simp only[H8,N3,B9,E6,v8,simprocAttr,h47,e45,e0,hin,hld,p1,p2,q0,q1,r1,r2,r3,r4,e10,hbs,g1]
    case' inr.inr.inr.inr=>simp only[H8,N3,B9,E6,v8,simprocAttr,h47,e45,e0,hin,hld,p1,p2,q0,q1,r1,r2,r3,r4]
    case inr.inr.inr.inr=>
     refine⟨k+1,by omega,by rw[B2 k (by omega)],by omega,fun e he=>?_,hx3⟩;rw[htk,ey1,ez7]at he;rcases he with he|he
     ·exact hdone e he
     ·subst he;exact(hbad _).1 hb
    all_goals
     refine ar0 results136 (ad:=⟨rb,0,none⟩) (by simp only[p7,↓reduceIte,Nat.reduceEqDiff];exact e10) g3 ?_;simp only[p7,simprocAttr];exact⟨⟨_,false,rfl,(fun h=>(by cases h)),fun _=>⟨hnb (b:=true) hb,rfl⟩⟩,g2⟩
   ·have hge:k=steps.length:=by simp at hc;omega
    subst hge;rw[ex5]at hdone;have hx2:=x1.trans hx;have hvg2:R (d7 w2) vg gl:=A3.mono (b7 hx2) hvg;have hs1:=bL3 vg gl M w2 hvg2 (by omega) (by omega) hgl;rw[←hM]at hs1;simp only[H8,simprocAttr,e2,e4];refine z6 dd9 hs1 ?_;rintro r1 w3 ⟨⟨ub,okg,hr1,hg1,hg2⟩,hx3⟩;subst hr1;have hvk3:R (d7 w3) vk kl:=A3.mono (b7 (hx2.trans hx3)) hvk;have hs2:=bL3 vk kl M w3 hvk3 (by omega) (by omega) hkl;rw[←hM]at hs2;simp only[H8,simprocAttr,e3,e4];refine z6 dd9 hs2 ?_;rintro r2 w4 ⟨⟨uk,okk,hr2,hk1,hk2⟩,hx4⟩;subst hr2;have hx14:=(hx.trans hx3).trans hx4;have hx04:=x1.trans hx14;obtain⟨w5,g1,g2,g3⟩:=early w4 hx04 ((hx14.block rb hrl id).trans c1);cases okg
    ·simp only[H8,N3,unV,simprocAttr,e10,hbs,g1];refine ar0 results136 (ad:=⟨rb,0,none⟩) (by simp only[p7,↓reduceIte,Nat.reduceEqDiff];exact e10) g3 ?_;simp only[p7,simprocAttr];exact⟨⟨_,false,rfl,(fun h=>(by cases h)),fun _=>⟨fun h=>hg2 rfl (by have:=h.gf;rw[hMt]at this;exact this),rfl⟩⟩,g2⟩
    ·cases okk
     ·simp only[H8,N3,unV,simprocAttr,e10,hbs,g1];refine ar0 results136 (ad:=⟨rb,0,none⟩) (by simp only[p7,↓reduceIte,Nat.reduceEqDiff];exact e10) g3 ?_;simp only[p7,simprocAttr];exact⟨⟨_,false,rfl,(fun h=>(by cases h)),fun _=>⟨fun h=>hk2 rfl (by have:=h.kf;rw[hMt]at this;exact this),rfl⟩⟩,g2⟩
     ·clear g1 g2 g3 w5;obtain⟨hgf,gs,hRg,hSg'⟩:=hg1 rfl;obtain⟨hkf,ks,hRk,hSk'⟩:=hk1 rfl;have hnew:=cd4 N v steps w4 (by omega) (A3.mono (b7 hx04) hv) (by omega);rw[←hN]at hnew;simp only[H8,N3,unV,simprocAttr,e0,e1];refine z6 dd4 hnew ?_;rintro pg w5 ⟨⟨Mb,hgo⟩,hx5⟩;have hgg:=ae6 N steps;have hgr:=hgo.read (b7 hx5);have hok:cq1 n steps gl kl most:=⟨hn0,hn5,hm0,hm5,hgn,hkn,by rw[hNt];exact hdone,by rw[hMt];exact hgf,by rw[hMt];exact hkf⟩;rw[hNt,hMt];generalize ah2 N steps=G at *;obtain⟨nx,pv⟩:=G;simp only at hgr;have hnl:nx.length=N:=hgg.nx.len;have hgg':az9 nx.length (nx,pv):=by rw[hnl];exact hgg
      have hsol:=co2 pg nx pv ub uk gs ks gl kl M w5 hgr hgg' (A3.mono (b7 (hx4.trans hx5)) hRg) (A3.mono (b7 hx5) hRk) hSg' hSk' (by omega) (by omega) hgf (by omega) (by omega);rw[←hM]at hsol;simp only[H8,simprocAttr,e4];refine z6 eh7 hsol ?_;rintro r3 w6 ⟨⟨vi,sol,T,hr3,hRs,hs1,hs2,hs3,hs4⟩,hx6⟩;subst hr3;have hx16:=(hx14.trans hx5).trans hx6;have Sv:=hRs.isS;have hone:∀u∈(#[vi,Value.int .i64 (T:Nat)]:Array Value).toList,u.oneCell'=true:=by
       intro u hu;simp at hu;rcases hu with rfl|rfl
       ·exact V4 Sv
       ·rfl
      obtain⟨w7,t1,t2,t3⟩:=ab3 (P:=prog) ((hx16.block rb hrl id).trans c1) aW5 (by rw[aa0];rfl) (cs:=#[vi,.int .i64 (T:Nat)]) (by rw[aa0];rfl) hone;have hlda:=R2 (P:=prog) t2 bl7 bm4 bm0 (by rw[aa0];rfl);simp only[H8,simprocAttr,e10,t1];refine ar0 results136 (ad:=⟨rb,0,none⟩) (by simp only[p7,↓reduceIte,Nat.reduceEqDiff];exact e10) hlda ?_;simp only[p7,simprocAttr];refine⟨⟨_,true,rfl,fun _=>⟨hok,vi,sol,T,rfl,?_,⟨hs1,hs2,hs3,hs4⟩⟩,(fun h=>(by cases h))⟩,o9.ext_of (x1.trans hx16) t3 fun b hb=>by subst hb;omega⟩;have hrb5:rb<w5.heap.size:=eC4 hrl (hx14.trans hx5).size;refine A3.mono (G6 t3 (fun b hb=>by subst hb;exact hrb5) fun b hb=>.inl ?_) hRs;have:=(x1.trans (hx14.trans hx5)).size;omega
theorem ef6:ag0 prog 136=true:=by kernel_rfl
theorem dH1(x:Int)(w:World){h:Hp}(hw:B4 h (d7 w)):∃v w',(Instr.buildSlice 112 1 #[(0,.int .i64 x)]).run prog w = .ok v w'∧A9 h w' 3 v [x]∧o6 w w'∧(∀b,A4 v b→w.heap.size≤b):=
 lit (P:=prog) (w:=w) (h:=h) (α:=Int) (xs:=[.int .i64 x]) (ys:=[x]) (parts:=#[(0,.int .i64 x)]) (n:=1) ac7 rfl (L3.2 rfl) (by simp[Value.cells]) rfl rfl (by simp) (by simp) hw
theorem dK9(w:World){vi:Value}(T:Int)(h1:isS vi=true):
  (Instr.alloc 189 true (.tuple #[])).run prog w = .ok (.pointer (some ⟨w.heap.size,0,none⟩)) (w.alloc (.cells #[.slice none 0 0,.int .i64 0] 189)) ∧
  (Instr.storeAt 189 (.pointer (some ⟨w.heap.size,0,none⟩)) (.agg #[vi,.int .i64 T])).run prog (w.alloc (.cells #[.slice none 0 0,.int .i64 0] 189)) =
   .ok () (w.alloc (.cells #[vi,.int .i64 T] 189)):=
 aH8 (P:=prog) (T:=189) aW5 (by rw[aa0];rfl) (cs:=#[vi,.int .i64 T]) (by rw[aa0];rfl) (by
  intro u hu;simp only[ey3,eB7,eH8]at hu;rcases hu with rfl|rfl
  ·exact V4 h1
  ·rfl)
theorem cQ1(w:World){vi:Value}{T:Int}:
  (Instr.loadAt 153 (.pointer (some ⟨w.heap.size,0,none⟩))).run prog (w.alloc (.cells #[vi,.int .i64 T] 189)) = .ok vi (w.alloc (.cells #[vi,.int .i64 T] 189)):=
 F0 (T:=189) (cs:=#[vi,.int .i64 T]) (i:=0) (eA5 w _) rfl Q9
theorem cv7{nx:List (List Int)}(hg:D7 nx.length nx):OkR nx:=fun a b hb=>(hg.row _).2 _ hb
theorem ci7(a:Addr)(p:Pg)(i:Nat)(v vat:Value)(at_:List Nat)(w:World)(ha:At (d7 w) a (z7 p))(hr:F5 p)(hw:D6 p≤1000000)(hi:i<p.procs.length)(hv:R (d7 w) v ((E3 (b9 p) i).pairs (E3 (b9 p) i).data))(hvat:R (d7 w) vat (at_.map fun(a:Nat)=>(a:Int)))(hnd:at_.Nodup)(hlt:∀A∈at_,(A:Int)<(E3 (b9 p) i).n):
  Calls prog 86 #[.pointer (some a),.int .i64 i,v,vat] w fun e w'=>∃u,e = .returned u∧((∃sol,R (B8 w' (fun b=>b<w.heap.size)) u sol∧(sol.length:Int)=(E3 (b9 p) i).n∧(∀c:Nat,(c:Int)<(E3 (b9 p) i).n→∃g:Nat→Bool,C3 sol c=((List.range at_.length).filter g).map (fun(f:Nat)=>(f:Int))∧∀f A,at_[f]?=some A→(g f=true↔aT3 ((z7 p).nx i) at_ A c=true)))∧o6 w w'):=by
 refine d9 (args:=[.pointer (some a),.int .i64 i,v,vat]) hm func86 rfl (by kernel_rfl) (by show 4≤_;decide +kernel) ?_;obtain⟨x,pt⟩:=O9 hr.may hw i hi;have hwy:=T8 pt;generalize x+A5 p.procs[i].body=y at pt hwy;have h200:=J4 hr.may;have hn:=hwy.n;have hlen:=pt.ok.len;have hle':=pt.ok.le;have hdl:=aN0 hr hw hi hwy;have hpr:=bf4 hr hw hi hwy;have hpl:((E3 (b9 p) i).pairs (E3 (b9 p) i).data).length≤1000000:=ex3 (Nat.le_of_eq (ex7 _)) hdl;clear hdl;have hnxe:(z7 p).nx (i:Int)=(ah2 (E3 (b9 p) i).n.toNat ((E3 (b9 p) i).pairs (E3 (b9 p) i).data)).1:=by
  unfold Bk.nx;rw[R8 hi]
 obtain⟨sh,vw,_,_,_,_,has,hvw,_,_,_,_,ldb,_⟩:=ha.book rfl;obtain⟨aw,hcw,haw⟩:=aw8 (hv:=hvw) (k:=i) (p:=⟨E3 (b9 p) i⟩) (by show((J1 p).map fun w=>(⟨w⟩:Ptr Wy))[i]?=_;rw[eA3,V1 hi];rfl);simp only at haw;have hinw:=hvw.inS (k:=i) (by show i<((J1 p).map fun w=>(⟨w⟩:Ptr Wy)).length;unfold J1;simpa using hi);obtain⟨_,_,_,_,_,_,ldw,_⟩:=haw.wy;rw[hnxe];generalize(E3 (b9 p) i).pairs (E3 (b9 p) i).data=steps at hv hpr hpl;generalize(E3 (b9 p) i).n=wn at hn hlt ldw hpr;obtain⟨M,rfl⟩:∃M:Nat,wn=(M:Int):=⟨wn.toNat,by omega⟩;simp only[ez1];have hltM:∀A∈at_,A<M:=fun A hA=>by have:=hlt A hA;omega
 have hml:at_.length≤M:=by
  have:=M6 (m:=List.range M) hnd fun A hA=>eA4.2 (hltM A hA);simpa using this
 have lb:=ldb w (i4 _);have hlw:=G3 (P:=prog) (t:=126) hcw (i4 _) ar2;have lw:=ldw w (i4 _);have hz:A3.enc (d7 w) (Value.slice none 0 0).cells.toList ([]:List Int):=az8 _;have mkI:=fun(wa:World) (ha:o6 w wa)=>mk (P:=prog) (w:=wa) (h:=d7 w) (α:=List Int) bV3 R6 (y:=[]) hz (n:=M) (by omega) (by omega) (b7 ha);obtain⟨il,hil,hil1⟩:=aR3 (P:=prog) R6 aD8;simp only[m8,n8,v8,simprocAttr,lb,hinw,hlw,lw];refine ct8 [2,3,9] (fun w'=>o6 w w') 6 (.op 0 (.op 2 (.fork [1,3] (fun i=>if i=1 then(B0 [4,3,5])else(B0 [1,4,5])))))
  (fun f' w'=>A9 (d7 w) w' 112 (f' 10) (List.replicate M ([]:List Int))∧A9 (d7 w) w' 112 (f' 11) (List.replicate M ([]:List Int))∧(∀b,A4 (f' 10) b→¬A4 (f' 11) b)∧o6 w w') (by decide +kernel) (by decide +kernel) (o6.drew w) ?_ ?_
 ·simp only[D5,B0,m8,simprocAttr];obtain⟨va,wA,m1,o1,xA,f1,_⟩:=mkI w.drew (o6.drew w);have hxA:=(o6.drew w).trans xA;obtain⟨vb,wB,m2,o2,xB,f2,_⟩:=mkI wA hxA;have hdj:∀b,A4 va b→¬A4 vb b:=fun b h1 h2=>by have:=o1.lt h1;have:=f2 b h2;omega
  refine at9 (by decide +kernel) (fun i hi=>?_);simp only[ey3,eB7,eH8]at hi;rcases hi with rfl|rfl
  ·simp only[D5,m8,simprocAttr,m1,m2,F6];exact⟨hxA,hxA.trans xB,o1.ext xB,o2,hdj,hxA.trans xB⟩
  ·simp only[D5,m8,simprocAttr,m1,m2,F6];exact⟨hxA,hxA.trans xB,o2,o1.ext xB,fun b h1 h2=>hdj b h2 h1,hxA.trans xB⟩
 rintro f w1 hk ⟨hog,hok,hdj,hx1⟩;simp only[ew6,p7,simprocAttr]at hk;obtain⟨e2,e3,e9,_⟩:=hk;generalize h10:f 10=vg at hog hdj;generalize h11:f 11=vk at hok hdj;have hSt:=hvat.isS;have hnt:=hvat.vlen;rw[ex7]at hnt;simp only[D5,m8,n8,simprocAttr,e3,hSt,hnt];refine n7 [2,3,9,10,11,33] (σ:=Nat×Value) (fun s f w'=>f 34 = .int .i64 s.1∧f 12=s.2∧s.1≤at_.length∧A9 (d7 w1) w' 3 s.2 ((List.range s.1).map fun(f:Nat)=>(f:Int))∧o6 w1 w') (fun s=>at_.length-s.1) (0,.slice none 0 0) (by decide +kernel) ?_ ?_
 ·simp only[p7,simprocAttr];exact⟨by first|rfl|trivial,trivial,ex6 _,A9.nil _ _ _,o9.refl _⟩
 rintro⟨k,ua⟩ f2 w2 hk ⟨h34,h12,hkl,hoa,hx2⟩;simp only at h34 h12 hkl hoa;simp only[ew6,p7,simprocAttr]at hk;obtain⟨g2,g3,g9,g10,g11,g33,_⟩:=hk;rw[e2]at g2;rw[e3]at g3;rw[e9]at g9;rw[h10]at g10;rw[h11]at g11;simp only[m8,n8,simprocAttr,h34,g33];refine i5 (fun hc=>?_) (fun hc=>?_)
 ·have hltk:k<at_.length:=by simpa using hc
  obtain⟨p1,u3,w3,p2,p3,p4,p5⟩:=push (P:=prog) (t:=112) (e:=112) ac7 rfl hoa (x:=.int .i64 (k:Int)) (y:=(k:Int)) rfl (by rw[ex7,eC0];omega) (by rw[ex7,eC0];omega) (b7 hx2);simp only[Value.cells]at p1 p2;simp only[m8,n8,simprocAttr,h34,h12,p1,p2];refine⟨(k+1,u3),by simp only[];omega,by simp only[];rw[B2 k (by omega)],by trivial,by simp only[];omega,?_,hoa.ext2 hx2 p4⟩;simp only[];have e:(List.range (k+1)).map (fun(f:Nat)=>(f:Int))=(List.range k).map (fun(f:Nat)=>(f:Int))++[(k:Int)]:=by
   rw[eH3,ez5,List.map_singleton]
  rw[e];exact p3
 have hge:k=at_.length:=by simp at hc;omega
 subst hge;have hx02:=hx1.trans hx2;have hNge:∀b,(A4 vg b∨A4 vk b)→w.heap.size≤b∧b<w1.heap.size:=fun b h=>by
  rcases h with h|h
  ·exact⟨C5 (hog.free h),hog.lt h⟩
  ·exact⟨C5 (hok.free h),hok.lt h⟩
 have hb02:B4 (d7 w) (B8 w2 (fun b=>A4 vg b∨A4 vk b)):=aF5 hx02 fun b hb=>(hNge b hb).1;have hog2:=(hog.ext hx2).reNo (N:=fun b=>A4 vg b∨A4 vk b) hb02 fun b hb=>.inl hb;have hok2:=(hok.ext hx2).reNo (N:=fun b=>A4 vg b∨A4 vk b) hb02 fun b hb=>.inr hb;have hua:R (B8 w2 (fun b=>A4 vg b∨A4 vk b)) ua ((List.range at_.length).map fun(f:Nat)=>(f:Int)):=hoa.flatR fun b hb=>D3 fun h=>by
  have h1:=C5 (hoa.free hb);have:=(hNge b h).2;omega
 have hSa:=hua.isS;simp only[m8,n8,simprocAttr,g3,hSt,hnt];refine n7 [2,3,9,10,11,12,42,43] (σ:=Nat) (fun k f w'=>f 44 = .int .i64 k∧k≤at_.length∧A9 (B8 w' (fun b=>A4 vg b∨A4 vk b)) w' 112 vg (aa7 at_ (fun f=>[(f:Int)]) M k)∧A9 (B8 w' (fun b=>A4 vg b∨A4 vk b)) w' 112 vk (aa7 at_ (fun _=>(List.range at_.length).map fun(f:Nat)=>(f:Int)) M k)∧o9 (fun b=>A4 vg b∨A4 vk b) w2 w') (fun k=>at_.length-k) 0 (by decide +kernel) ?_ ?_
 ·simp only[p7,simprocAttr];exact⟨by trivial,ex6 _,hog2,hok2,o9.refl _⟩
 rintro k f4 w4 hk ⟨h44,hkl4,hog4,hok4,hm4⟩;simp only[ew6,p7,simprocAttr]at hk;obtain⟨j2,j3,j9,j10,j11,j12,j42,j43,_⟩:=hk;rw[g2]at j2;rw[g3]at j3;rw[g9]at j9;rw[g10]at j10;rw[g11]at j11;rw[h12]at j12;have hx04:o6 w w4:=o9.ext_of hx02 hm4 fun b hb=>(hNge b hb).1;have hm4l:B4 (B8 w2 (fun b=>A4 vg b∨A4 vk b)) (B8 w4 (fun b=>A4 vg b∨A4 vk b)):=G6 hm4 (fun _ h=>h) fun _ h=>.inl h;simp only[m8,n8,simprocAttr,h44,j43];refine i5 (fun hc2=>?_) (fun hc2=>?_)
 ·have hltk:k<at_.length:=by simpa using hc2
  have hin:=hvat.inS (k:=k) (by rw[ex7];exact hltk);have hld:=aH7 hvat (b7 hx04) (k:=k) (by rw[ex7];exact hltk);rw[eF6]at hld;have hAM:=hltM _ (ex8 hltk);have hgd:at_.getD k 0=at_[k]:=by rw[List.getD,ew4 hltk];rfl
  generalize at_[k]=A at hld hAM hgd;obtain⟨ul,w5,q1,q2,q3,q4⟩:=dH1 (k:Int) w4 (i4 _);have hl45:B4 (B8 w4 (fun b=>A4 vg b∨A4 vk b)) (B8 w5 (fun b=>A4 vg b∨A4 vk b)):=G6 q3 (fun _ h=>h.elim) fun _ h=>.inl h;have hNlt:∀b,(A4 vg b∨A4 vk b)→b<w4.heap.size:=fun b hb=>eC4 (hNge b hb).2 (ex3 hx2.size hm4.size);have hul:R (B8 w5 (fun b=>A4 vg b∨A4 vk b)) ul [(k:Int)]:=q2.flatR fun b hb=>D3 fun h=>by
   have h1:=q4 b hb;have:=hNlt b h;omega
  have hog5:=(hog4.ext q3).up hl45 fun b hb=>H3 (.inl hb);have hok5:=(hok4.ext q3).up hl45 fun b hb=>H3 (.inr hb);obtain⟨w6,s1,hog6,hm6,_⟩:=E1 (P:=prog) (t:=112) hog5 rfl (k:=A) (by rw[S8];exact hAM) (x:=ul) (y:=[(k:Int)]) hul (D9 q2.isS) hil hil1;have hl56:B4 (B8 w5 (fun b=>A4 vg b∨A4 vk b)) (B8 w6 (fun b=>A4 vg b∨A4 vk b)):=G6 hm6 (fun _ h=>.inl h) fun _ h=>.inl h;have hok6:=(hok5.mod hm6 fun b hb hb2=>hdj b hb2 hb).up hl56 fun b hb=>H3 (.inr hb);have hua6:=A3.mono (p6 hm4l (p6 hl45 hl56)) hua;obtain⟨w7,s2,hok7,hm7,_⟩:=E1 (P:=prog) (t:=112) hok6 rfl (k:=A) (by rw[S8];exact hAM) (x:=ua) (y:=(List.range at_.length).map fun(f:Nat)=>(f:Int)) hua6 (D9 hSa) hil hil1;have hl67:B4 (B8 w6 (fun b=>A4 vg b∨A4 vk b)) (B8 w7 (fun b=>A4 vg b∨A4 vk b)):=G6 hm7 (fun _ h=>.inr h) fun _ h=>.inl h;have hog7:=(((hog6.up hl56 fun b hb=>H3 (.inl hb)).mod hm7 fun b hb hb2=>hdj b hb hb2)).up hl67 fun b hb=>H3 (.inl hb);have hok7':=hok7.up hl67 fun b hb=>H3 (.inr hb);have hing:=hog5.inS (k:=A) (by rw[S8];exact hAM);have hink:=hok6.inS (k:=A) (by rw[S8];exact hAM);simp only[m8,n8,v8,simprocAttr,h44,j10,j11,j12,j42,hin,hld,q1,hing,s1,hink,s2];refine⟨k+1,by omega,by rw[B2 k (by omega)],by omega,?_,?_,?_⟩
  ·rw[aa7,hgd];exact hog7
  ·rw[aa7,hgd];exact hok7'
  ·exact(hm4.trans (o9.up q3)).trans ((o9.weaken hm6 fun b _ h=>.inl h).trans (o9.weaken hm7 fun b _ h=>.inr h))
 have hge:k=at_.length:=by simp at hc2;omega
 subst hge;have hrowg:=bu8 (g:=fun f=>[(f:Int)]) (n:=M) hnd hltM;have hrowk:=bu8 (g:=fun _=>(List.range at_.length).map fun(f:Nat)=>(f:Int)) (n:=M) hnd hltM;have hgg:∀r∈aa7 at_ (fun f=>[(f:Int)]) M at_.length,r.length≤1000∧∀f∈r,0≤f∧f<(at_.length:Int):=fun r hr=>by
  obtain⟨q,hq⟩:=eI0.1 hr;rcases au1 hnd hltM _ (ex9 _) q r hq with⟨f,hf,_,rfl⟩|⟨_,rfl⟩
  ·exact⟨by simp,fun f' hf'=>by simp at hf';omega⟩
  ·exact⟨by simp,fun f' hf'=>by simp at hf'⟩
 have hkk:∀r∈aa7 at_ (fun _=>(List.range at_.length).map fun(f:Nat)=>(f:Int)) M at_.length,r.length≤1000∧∀f∈r,0≤f∧f<(at_.length:Int):=fun r hr=>by
  obtain⟨q,hq⟩:=eI0.1 hr;rcases au1 hnd hltM _ (ex9 _) q r hq with⟨f,hf,_,rfl⟩|⟨_,rfl⟩
  ·refine⟨by simp;omega,fun f' hf'=>?_⟩;obtain⟨z,hz,rfl⟩:=ez6.1 hf';have:=eA4.1 hz;omega
  ·exact⟨by simp,fun f' hf'=>by simp at hf'⟩
 have hgl:=S8 at_ (fun f=>[(f:Int)]) M at_.length;have hkl:=S8 at_ (fun _=>(List.range at_.length).map fun(f:Nat)=>(f:Int)) M at_.length;generalize aa7 at_ (fun f=>[(f:Int)]) M at_.length=gl at hog4 hrowg hgg hgl;generalize aa7 at_ (fun _=>(List.range at_.length).map fun(f:Nat)=>(f:Int)) M at_.length=kl at hok4 hrowk hkk hkl;have hofok:cq1 (M:Int) steps gl kl (at_.length:Int):=by
  refine⟨by omega,by omega,by omega,by omega,by omega,by omega,fun s hs=>?_,fun r hr f hf=>?_,fun r hr f hf=>?_⟩
  ·have:=hpr s hs;rw[ez1];unfold aW8;omega
  ·have:=(hgg r hr).2 f hf;rw[ez1];exact this
  ·have:=(hkk r hr).2 f hf;rw[ez1];exact this
 simp only[m8,n8,simprocAttr,j2,j3,j9,j10,j11,hSt,hnt];refine z6 ef6 (df5 (M:Int) (at_.length:Int) v vg vk steps gl kl w4 (A3.mono (b7 hx04) hv) (hog4.rw_ (B3 _ _)) (hok4.rw_ (B3 _ _)) (by omega) (fun r hr=>by have:=(hgg r hr).1;omega) fun r hr=>by have:=(hkk r hr).1;omega) ?_;rintro _ w5 ⟨⟨vs,okb,rfl,hyes,hno⟩,hx5⟩;cases okb with
 | false=>exact absurd hofok (hno rfl).1
 | true=>
  obtain⟨_,vi,sol,T,rfl,hsol,hso⟩:=hyes rfl;have hSi:=hsol.isS;obtain⟨al,st⟩:=dK9 w5 (T:Int) hSi;have lin:=cQ1 w5 (vi:=vi) (T:=(T:Int));simp only[m8,n8,simprocAttr,al,st,lin];refine n9 results86 ?_;simp only[p7,simprocAttr];have hxa:=o6.alloc w5 (.cells #[vi,.int .i64 (T:Int)] 189);have hgood:=(ae6 M steps).nx;have hgl2:=hgood.len;rw[ez1]at hso;refine⟨⟨sol,?_,?_,fun c hcM=>?_⟩,(hx04.trans hx5).trans hxa⟩
  ·refine A3.mono (fun b o e=>?_) hsol;have hn1:¬b<w4.heap.size:=fun h=>by rw[H3 (N:=fun b=>b<w4.heap.size) h]at e;cases e
   rw[D3 (N:=fun b=>b<w4.heap.size) hn1]at e;rw[D3 (N:=fun b=>b<w.heap.size) (fun h=>hn1 (eC4 h hx04.size))];exact b7 hxa b o e
  ·rw[hso.len,hgl2]
  ·obtain⟨g,hg1,hg2⟩:=hso.row (c:Int) (C7.2 ⟨by omega,by rw[hgl2];exact hcM⟩);rw[ez1]at hg1;refine⟨g,hg1,fun f A hf=>?_⟩;rw[hg2,bQ5 (cv7 (by rw[hgl2];exact hgood)),ci8 ?_ ?_ hf]
   ·intro a' f';rw[hrowg];constructor
    ·rintro⟨f2,A2,h1,h2,h3⟩;have:f'=f2:=by simp at h3;omega
     subst this;exact⟨A2,h1,h2⟩
    ·rintro⟨A2,h1,h2⟩;exact⟨f',A2,h1,h2,by simp⟩
   ·intro a' f' hf';rw[hrowk];constructor
    ·rintro⟨f2,A2,h1,h2,_⟩;exact⟨A2,ey5 h1,h2⟩
    ·rintro⟨A2,h1,h2⟩;obtain⟨f2,hf2⟩:=eI0.1 h1;exact⟨f2,A2,hf2,h2,ez6.2 ⟨f',eA4.2 hf',rfl⟩⟩
section
section
variable {P:Program} {K:Fr→World→Prop} {f:Fr} {w:World} {d:Option Nat} {ty:TypeId} {pos:String} {aft:Array Edge}
theorem cA9{t:Nat}{x:Operand}:B1 P none ⟨d,.range t x,ty,pos,aft,none⟩ K f w=ab1 ((Instr.range t (ev f x)).run P w) K f d:=by
 show M9 P _ K f w=_;unfold M9;simp only[execOp,ey8];generalize(Instr.range t (ev f x)).run P w=r;cases r<;>rfl
theorem cd5{x:Operand}{s:Bool}:B1 P none ⟨d,.next x s,ty,pos,aft,none⟩ K f w=ab1 ((Instr.next (ev f x) s ty).run P w) K f d:=by
 show M9 P _ K f w=_;unfold M9;simp only[execOp,ey8];generalize(Instr.next (ev f x) s ty).run P w=r;cases r<;>rfl
theorem cA8{x:Operand}:B1 P none ⟨d,.entry x,ty,pos,aft,none⟩ K f w=ab1 ((Instr.entry (ev f x)).run P w) K f d:=by
 show M9 P _ K f w=_;unfold M9;simp only[execOp,ey8];generalize(Instr.entry (ev f x)).run P w=r;cases r<;>rfl
end
open Go.ChangeMaps (setBlock)
structure RgI (w:World) (it r:Nat) (es:Array MapEntry) (clock:Nat) (D:List Nat):Prop where
 cur:∃c0,clock≤c0∧w.heap[it]?=some (.mapIter (some r) clock (D.map fun j=>(es.getD j default).born).toArray c0)
 map:w.heap[r]?=some (.map es clock)
 born:∀x∈es.toList,x.born<clock
 nd:(es.toList.map (·.born)).Nodup
 dn:D.Nodup
 dl:∀j∈D,j<es.size
theorem RgI.mod{w w':World}{it r:Nat}{es:Array MapEntry}{clock:Nat}{D:List Nat}{M:Nat→Prop}(s:RgI w it r es clock D)(h:o9 M w w')(h1:¬M it)(h2:¬M r):RgI w' it r es clock D:=by
 obtain⟨c0,hc,e⟩:=s.cur;exact⟨⟨c0,hc,(h.block it (ex0.1 e).1 h1).trans e⟩,(h.block r (ex0.1 s.map).1 h2).trans s.map,s.born,s.nd,s.dn,s.dl⟩
theorem bB4{w:World}{it:Nat}{o:Obj}:o9 (fun b=>b=it) w (setBlock w it o):=bB6 w it o
theorem RgI.next{P:Program}{w:World}{it r:Nat}{es:Array MapEntry}{clock:Nat}{D:List Nat}(s:RgI w it r es clock D)(hne:it≠r)(ty:TypeId):
  ((∀j,j<es.size→j∈D)∧(Instr.next (.pointer (some ⟨it,0,none⟩)) false ty).run P w = .ok (.tuple #[.bool false]) w) ∨
  ∃(j:Nat) (e:MapEntry) (w':World),es[j]?=some e∧j∉D∧(Instr.next (.pointer (some ⟨it,0,none⟩)) false ty).run P w = .ok (.tuple #[.bool true,e.key,e.val]) w'∧RgI w' it r es clock (D++[j])∧o9 (fun b=>b=it) w w' ∧
   (∀w'',o9 (fun b=>b≠it∧b≠r) w' w''→(Instr.entry (.pointer (some ⟨it,0,none⟩))).run P w'' = .ok (.tuple #[e.key,e.val]) w''):=by
 obtain⟨c0,hc,e⟩:=s.cur;have hb:∀j k,j<es.size→k<es.size→(es.getD j default).born=(es.getD k default).born→j=k:=fun j k hj hk h=>by
  have h3:=eF4.1 s.nd;have hg:∀j (hj:j<es.size),(es.toList.map (·.born))[j]'(by simpa using hj)=(es.getD j default).born:=fun j hj=>by
   simp[Array.getD,hj]
  rcases Nat.lt_trichotomy j k with h1|h1|h1
  ·exact absurd (by rw[hg j hj,hg k hk];exact h) (h3 j k (by simpa using hj) (by simpa using hk) h1)
  ·exact h1
  ·exact absurd (by rw[hg j hj,hg k hk];exact h.symm) (h3 k j (by simpa using hk) (by simpa using hj) h1)
 have hin:∀j,j<es.size→(((D.map fun j=>(es.getD j default).born).toArray.contains (es.getD j default).born)=true↔j∈D):=fun j hj=>by
  rw[←Array.contains_toList,ez2,ez6];constructor
  ·rintro⟨k,hk,h⟩;have:=hb k j (s.dl k hk) hj h;rw[←this];exact hk
  ·exact fun h=>⟨j,h,rfl⟩
 rcases run_next_at (P:=P) w ty it r clock c0 _ es clock e s.map s.born hc with⟨h1,h2⟩|⟨x,hx,w1,hw1,hrun⟩
 ·left;refine⟨fun j hj=>?_,h2⟩;refine eG6 fun hnj=>?_;have h0:leftOf es (D.map fun j=>(es.getD j default).born).toArray=#[]:=Array.eq_empty_of_size_eq_zero h1;unfold leftOf at h0;rw[Array.filter_eq_empty_iff]at h0;have h3:=h0 es[j] (Array.getElem_mem hj);have h4:es.getD j default=es[j]:=by simp[Array.getD,hj]
  have h5:=hin j hj;rw[h4]at h5;rw[Bool.not_eq_true',eH0]at h3;exact hnj (h5.1 (Classical.not_not.1 h3))
 ·right;unfold leftOf at hx;have hx':x∈es.toList∧(!(D.map fun j=>(es.getD j default).born).toArray.contains x.born)=true:=by simpa using hx
  obtain⟨j,hj,rfl⟩:=eB5.1 hx'.1;have hj':j<es.size:=by simpa using hj
  have hget:es.getD j default=es.toList[j]:=by simp[Array.getD,hj']
  have hnj:j∉D:=fun h=>by
   have:=(hin j hj').2 h;rw[hget]at this;rw[this]at hx';simp at hx'
  have hM1:o9 (fun b=>b=it) w w1:=by
   rcases hw1 with rfl|rfl
   ·exact o9.refl _
   ·exact o9.up (o6.drew w)
  have hitl:it<w1.heap.size:=eC4 (ex0.1 e).1 hM1.size;have hseen:((D.map fun j=>(es.getD j default).born).toArray.push es.toList[j].born)=((D++[j]).map fun j=>(es.getD j default).born).toArray:=by
   rw[ez5,←hget];simp
  have hmod:o9 (fun b=>b=it) w (setBlock w1 it (.mapIter (some r) clock ((D.map fun j=>(es.getD j default).born).toArray.push es.toList[j].born) clock)):=hM1.trans bB4;have hmap':=(hmod.block r (ex0.1 s.map).1 fun h=>hne h.symm).trans s.map;have hit':(setBlock w1 it (.mapIter (some r) clock ((D.map fun j=>(es.getD j default).born).toArray.push es.toList[j].born) clock)).heap[it]?=some (.mapIter (some r) clock ((D.map fun j=>(es.getD j default).born).toArray.push es.toList[j].born) clock):=by
   show(w1.heap.setIfInBounds it _)[it]?=_;simp[hitl]
  refine⟨j,es.toList[j],_,by rw[eF3 hj'];simp,hnj,hrun,⟨⟨clock,ex9 _,by rw[←hseen];exact hit'⟩,hmap',s.born,s.nd,?_,fun k hk=>?_⟩,hmod,fun w'' h=>?_⟩
  ·rw[eD6];exact⟨s.dn,by simp,fun a ha b hb=>by simp at hb;subst hb;rintro rfl;exact hnj ha⟩
  ·rcases ey1.1 hk with h|h
   ·exact s.dl k h
   ·simp at h;subst h;exact hj'
  ·exact run_entry_at (P:=P) w'' it r clock _ es clock es.toList[j] ((h.block it (ex0.1 hit').1 fun h=>h.1 rfl).trans hit') ((h.block r (ex0.1 hmap').1 fun h=>h.2 rfl).trans hmap') (ex8 hj) s.nd
end
theorem eu0:ag0 prog 84=true:=by kernel_rfl
theorem eu1:ag0 prog 85=true:=by kernel_rfl
theorem eu2:ag0 prog 86=true:=by kernel_rfl
theorem eu3:ag0 prog 89=true:=by kernel_rfl
theorem bp5(a:Addr)(p:Pg)(i:Nat)(w:World)(ha:At (d7 w) a (z7 p))(hr:F5 p)(hw:D6 p≤1000000)(hi:i<p.procs.length):
  Calls prog 47 #[.pointer (some a),.int .i64 i] w fun e w'=>∃u,e = .returned u∧(A9 (d7 w) w' 97 u ((z7 p).flows (i:Int))∧o6 w w'):=by
 refine d9 (args:=[.pointer (some a),.int .i64 i]) hm func47 rfl (by kernel_rfl) (by show 2≤_;decide +kernel) ?_;obtain⟨x,pt⟩:=O9 hr.may hw i hi;have hwy:=T8 pt;generalize x+A5 p.procs[i].body=y at pt hwy;have h200:=J4 hr.may;have hn:=hwy.n;have hlen:=pt.ok.len;have hle':=pt.ok.le;have hdl:=aN0 hr hw hi hwy;have hrg:=by0 hr hw hi hwy;have hdl':(E3 (b9 p) i).data.length≤10000000:=ex3 hdl (by decide);obtain⟨M,hM⟩:∃M:Nat,(E3 (b9 p) i).n=(M:Int):=by
  generalize(E3 (b9 p) i).n=wn at hn;exact⟨wn.toNat,by omega⟩
 have hM202:M≤202:=by rw[hM]at hn;clear hdl hdl';omega
 have hbw:(z7 p).way (i:Int)=E3 (b9 p) i:=R8 hi;have hbM:((z7 p).way (i:Int)).n.toNat=M:=by rw[hbw,hM,ez1]
 have hinj:bp6 ((z7 p).way (i:Int)):=by rw[hbw];exact df8 hwy.toWyOk h200
 have hplc:∀a:Nat,a<((z7 p).way (i:Int)).n.toNat→plc (((z7 p).way (i:Int)).place a):=by rw[hbw];exact df9 hwy.toWyOk h200
 have hgr:∀k:Nat,k<((z7 p).way (i:Int)).n.toNat→((z7 p).gives (i:Int) (k:Int)).Nodup∧((z7 p).gives (i:Int) (k:Int)).length≤100:=fun k hk=>by
  rw[hbM]at hk;have h:=aK3 hr hw hi (k:=k) (by rw[hM];exact Int.ofNat_lt.2 hk);exact⟨ax0 h.1,h.2⟩
 have htk:=fun(c:Nat) (hc:c<M)=>bW3 hr hw hi (k:=c) (by rw[hM];exact Int.ofNat_lt.2 hc);obtain⟨sh,vw,_,_,_,_,has,hvw,_,_,_,_,ldb,_⟩:=ha.book rfl;obtain⟨aw,hcw,haw⟩:=aw8 (hv:=hvw) (k:=i) (p:=⟨E3 (b9 p) i⟩) (by show((J1 p).map fun w=>(⟨w⟩:Ptr Wy))[i]?=_;rw[eA3,V1 hi];rfl);simp only at haw;have hinw:=hvw.inS (k:=i) (by show i<((J1 p).map fun w=>(⟨w⟩:Ptr Wy)).length;unfold J1;simpa using hi);obtain⟨_,_,_,_,_,_,ldw,_⟩:=haw.wy;have lb:=ldb w (i4 _);have hlw:=G3 (P:=prog) (t:=126) hcw (i4 _) ar2;simp only[m8,n8,v8,simprocAttr,lb,hinw,hlw];refine z6 dG1 (bD3 aw _ p i x y w haw hr hw hi hwy) ?_;rintro vd w1 ⟨hod,hx1⟩;simp only[m8,simprocAttr];refine z6 bI1 (ak6 aw _ p i x y vd _ w1 (haw.mono (b7 hx1)) hwy.toWyOk (hod.rw_ (b7 hx1)) hrg hdl') ?_;rintro vp w2 ⟨hop,hx2⟩;have hvp:=hop.rw_ (b7 hx2);clear hdl hdl' hrg;simp only[m8,simprocAttr];refine z6 eu0 (ck7 a p i w2 (ha.mono (b7 (hx1.trans hx2))) hr hw hi) ?_;rintro _ w3 ⟨r,kv,cn,rfl,hG⟩;have hx03:=hx1.trans (hx2.trans hG.ext);have lw:=ldw w3 (b7 hx03);simp only[hM]at lw;have hz:A3.enc (d7 w3) (Value.slice none 0 0).cells.toList ([]:List A6):=az8 _;obtain⟨vt,w4,m1,ot4,x4,f4,_⟩:=mk (P:=prog) (w:=w3) (h:=d7 w3) (α:=List A6) ce1 bO1 (y:=[]) hz (n:=M) (by omega) (by omega) (i4 _);obtain⟨il,hil,hil1⟩:=aR3 (P:=prog) bO1 cI0;have hSt:=ot4.isS;have hnt:=ot4.vlen;rw[eB2]at hnt;simp only[m8,n8,simprocAttr,lw,m1,hSt,hnt];have hN4:∀b,A4 vt b→w3.heap.size≤b∧b<w4.heap.size:=fun b hb=>⟨f4 b hb,ot4.lt hb⟩;have ot4':=ot4.reNo (aF5 x4 fun b hb=>(hN4 b hb).1) (fun b hb=>hb);rw[bV0 (fun c=>(z7 p).takes (i:Int) (c:Int)) M]at ot4';refine n7 [0,1,5,6,7,8,10,41] (σ:=Nat) (fun k f w'=>f 42 = .int .i64 k∧k≤M∧A9 (B8 w' (A4 vt)) w' 22 vt (az2 (fun c=>(z7 p).takes (i:Int) (c:Int)) M k)∧o6 w3 w'∧w4.heap.size≤w'.heap.size) (fun k=>M-k) 0 (by decide +kernel) ?_ ?_
 ·simp only[p7,simprocAttr];exact⟨by first|rfl|trivial,ex6 _,ot4',x4,ex9 _⟩
 rintro k f w5 hk ⟨h42,hkl,ot5,hx35,hs5⟩;simp only[ew6,p7,simprocAttr]at hk;obtain⟨e0,e1,e5,e6,e7,e8,e10,e41,_⟩:=hk;have hx05:=hx03.trans hx35;simp only[m8,n8,simprocAttr,h42,e41];refine i5 (fun hc=>?_) (fun hc=>?_)
 ·have hltk:k<M:=by simpa using hc
  simp only[m8,simprocAttr,h42,e0,e1,e10];refine z6 eu1 (ch3 (d7 w) a p i k w5 ha (b7 hx05) hr hw hi (by rw[hM];exact Int.ofNat_lt.2 hltk)) ?_;rintro u w6 ⟨hu,hx6⟩;have huN:R (B8 w6 (A4 vt)) u ((z7 p).takes (i:Int) (k:Int)):=A3.mono (cb9 (b7 hx05) hx6 fun b hb=>⟨eC4 (hN4 b hb).2 hs5,bd3 (ex3 hx03.size (hN4 b hb).1)⟩) hu;have ot6:=(ot5.ext hx6).up (G6 hx6 (fun _ h=>h.elim) fun _ h=>.inl h) fun b hb=>H3 hb;obtain⟨w7,s1,ot7,hm7,hs7⟩:=E1 (P:=prog) (t:=22) ot6 rfl (k:=k) (by rw[aV4];exact hltk) (x:=u) (y:=(z7 p).takes (i:Int) (k:Int)) huN (D9 huN.isS) hil hil1;have ot7':=ot7.up (G6 hm7 (fun _ h=>h) fun _ h=>.inl h) fun b hb=>H3 hb;have hin:=ot6.inS (k:=k) (by rw[aV4];exact hltk);rw[cn8 (T:=fun c=>(z7 p).takes (i:Int) (c:Int))]at ot7';have hs6:=hx6.size;simp only[m8,n8,v8,simprocAttr,h42,hin,s1];exact⟨k+1,by omega,by rw[B2 k (by omega)],by omega,ot7',o9.ext_of (hx35.trans hx6) hm7 fun b hb=>(hN4 b hb).1,by omega⟩
 have hge:M=k:=by simp at hc;omega
 subst hge;have hvt:=ot5.rw_ (B3 _ _);have hvp5:=A3.mono (b7 (hG.ext.trans hx35)) hvp;have hG5:=hG.more hx35;obtain⟨es,clock,hes,hkv,hknd,hborn,hbnd⟩:=hG5.map;have hrun:=run_range_map (P:=prog) w5 146 _ _ r es clock Tryz.underlying146 hes;have hxa:=o6.alloc w5 (.mapIter (some r) clock #[] clock);have hr0:RgI (w5.alloc (.mapIter (some r) clock #[] clock)) w5.heap.size r es clock []:=⟨⟨clock,ex9 _,eA5 _ _⟩,((o6.alloc _ _).block _ (ex0.1 hes).1 id).trans hes,hborn,hbnd,List.nodup_nil,by simp⟩;generalize w5.alloc (.mapIter (some r) clock #[] clock)=w6 at hrun hxa hr0;have hrlt:r<w5.heap.size:=(ex0.1 hes).1;have hkl2:kv.length=es.size:=by
  have:=ey2 List.length hkv;simpa using this.symm
 have hkeysG:∀n,(z7 p).givers (i:Int) n≠[]↔n∈kv.map (·.1):=fun n=>by
  have hgn:cv5 p i n=((z7 p).givers (i:Int) n).map fun(a:Nat)=>(a:Int):=rfl;constructor
  ·intro h;cases e:K9 kv n with
   | none=>
    have:=hG5.no n e;rw[hgn,List.map_eq_nil_iff]at this;exact absurd this h
   | some v=>exact ez6.2 ⟨_,cv3 e,rfl⟩
  ·intro h e;obtain⟨⟨m,v⟩,h1,rfl⟩:=ez6.1 h;have:=(hG5.row m v (bG9 hknd h1)).2;rw[hgn]at this;simp only at e;rw[e]at this;exact this rfl
 have hkl3:kv.length≤M*100:=by
  have h:=cy6 (b:=z7 p) (i:=(i:Int)) hknd (fun n hn=>(hkeysG n).2 hn) fun a ha=>(hgr a ha).2;rw[hbM,ex7]at h;exact h
 simp only[m8,simprocAttr,e8,cA9,hrun];have hne:w5.heap.size≠r:=fun e=>by omega
 refine n7 [0,1,5,7,10,54] (σ:=List Nat×Value) (fun s f w'=>f 6=s.2∧RgI w' w5.heap.size r es clock s.1∧o6 w5 w'∧A9 (d7 w5) w' 97 s.2 ((s.1.map (bo7 kv)).flatMap (ai7 (z7 p) (i:Int)))∧(∀b,A4 s.2 b→b≠w5.heap.size)) (fun s=>es.size-s.1.length) ([],.slice none 0 0) (by decide +kernel) ?_ ?_
 ·simp only[p7,simprocAttr];exact⟨e6,hr0,hxa,A9.nil _ _ _,fun b hb=>absurd hb D0⟩
 rintro⟨D,vo⟩ f7 w7 hk ⟨h6,hrg7,hx57,ho7,hvo7⟩;simp only at h6 hrg7 ho7 hvo7;simp only[ew6,p7,simprocAttr]at hk;obtain⟨g0,g1,g5,g7,g10,g54,_⟩:=hk;rw[e0]at g0;rw[e1]at g1;rw[e5]at g5;rw[e7]at g7;rw[e10]at g10;have hDl:D.length≤es.size:=by
  have:=M6 (m:=List.range es.size) hrg7.dn fun j hj=>eA4.2 (hrg7.dl j hj)
  rwa [eC0]at this
 have hpre:((D.map (bo7 kv)).flatMap (ai7 (z7 p) (i:Int))).length≤824240800:=by
  have h:=aF3 (l:=D.map (bo7 kv)) (f:=ai7 (z7 p) (i:Int)) (B:=M*M) fun n _=>by
   have:=ck2 (z7 p) (i:Int) n
   rwa [hbM]at this
  rw[ex7]at h;have h1:D.length≤20200:=by omega
  have h2:M*M≤202*202:=Nat.mul_le_mul hM202 hM202;have h3:D.length*(M*M)≤20200*(202*202):=Nat.mul_le_mul h1 h2;exact ex3 h (ex3 h3 (by decide))
 rcases hrg7.next (P:=prog) hne 0 with⟨hall,hnx⟩|⟨j,e,w8,hje,hnj,hnx,hrg8,hm8,hent⟩
 ·simp only[m8,simprocAttr,g54,cd5,hnx,h6];refine z6 eu3 (bV7 ho7 (by omega) fun s hs t ht h1 h2=>?_) ?_
  ·obtain⟨n,_,hs⟩:=eB6.1 hs;obtain⟨m,_,ht⟩:=eB6.1 ht;exact ck3 hplc hs ht h1 h2
  rintro u9 w9 ⟨ho9,hm9⟩;simp only[m8,simprocAttr,h6];refine n9 results47 ?_;simp only[p7,simprocAttr];have hkn:(D.map (bo7 kv)).Nodup:=by
   rw[List.Nodup,List.pairwise_map];refine List.Pairwise.imp_of_mem (fun{j q} hj hq hne e=>?_) hrg7.dn;exact hne (cy5 hknd (by have:=hrg7.dl j hj;omega) (by have:=hrg7.dl q hq;omega) e)
  have hperm:=bR9 hinj (fun a ha=>(hgr a ha).1) hkn fun n hn=>by
   have h1:=(hkeysG n).1 hn;obtain⟨q,hq,hqe⟩:=eB5.1 h1;refine ez6.2 ⟨q,hall q (by rw[ex7]at hq;omega),?_⟩;rw[←hqe,eF6,aO5 (ew4 (by simpa using hq))]
  rw[cu9 hinj (fun a ha=>(hgr a ha).1) hplc hperm]at ho9;exact⟨ho9.backN hx05,o9.ext_of (hx05.trans hx57) hm9 fun b hb=>ex3 hx05.size (C5 (ho7.free hb))⟩
 generalize hP:(D.map (bo7 kv)).flatMap (ai7 (z7 p) (i:Int))=pre at ho7 hpre;obtain⟨⟨n,v⟩,hq,hek,hev⟩:∃q:A6×Value,kv[j]?=some q∧e.key=o7 q.1∧e.val=q.2:=by
  have h1:=ey2 (fun l=>l[j]?) hkv;simp only[eA3,eG9,hje,eC3]at h1;obtain⟨q,h2,h3⟩:=Option.map_eq_some_iff.1 h1.symm;exact⟨q,h2,(ey2 Prod.fst h3).symm,(ey2 Prod.snd h3).symm⟩
 simp only at hek hev;have hkey:bo7 kv j=n:=aO5 hq;obtain⟨hov,_⟩:=hG5.row n v (bG9 hknd (ey5 hq));have hent':=hent w8 (o9.refl _);rw[hek,hev]at hent' hnx;have hx58:o6 w5 w8:=o9.ext_of hx57 hm8 fun b hb=>by subst hb;exact ex9 _
 have ho8:=ho7.mod hm8 fun b hb h=>hvo7 b hb h;have hvat5:R (d7 w5) v (((z7 p).givers (i:Int) n).map fun(a:Nat)=>(a:Int)):=hov.rw_ (b7 (hG.ext.trans hx35));have hvat8:R (d7 w8) v (((z7 p).givers (i:Int) n).map fun(a:Nat)=>(a:Int)):=A3.mono (b7 hx58) hvat5;have hvp8:=A3.mono (b7 hx58) hvp5;have hDj:D.length+1≤es.size:=by
  have:=M6 (m:=List.range es.size) hrg8.dn fun q hq=>eA4.2 (hrg8.dl q hq)
  rwa [eC0,ew7,ez4]at this
 simp only[m8,simprocAttr,g54,cd5,cA8,hnx,hent',g0,g1,g7];refine z6 eu2 (ci7 a p i vp v ((z7 p).givers (i:Int) n) w8 (ha.mono (b7 (hx05.trans hx58))) hr hw hi hvp8 hvat8 (aN9 _ _ _) (fun A hA=>by have:=ae2 _ _ _ A hA;rw[hbM]at this;rw[hM];exact Int.ofNat_lt.2 this)) ?_;rintro vs w9 ⟨⟨sol,hsol,hsl,hrow⟩,hx9⟩;rw[hM]at hsl;simp only[hM]at hrow;have hsl':sol.length=M:=by omega
 have hrow':∀c:Nat,c<M→C3 sol c=(ai8 (z7 p) (i:Int) n c).map fun(f:Nat)=>(f:Int):=fun c hc=>by
  obtain⟨g,h1,h2⟩:=hrow c (Int.ofNat_lt.2 hc);have e:(List.range ((z7 p).givers (i:Int) n).length).filter g=ai8 (z7 p) (i:Int) n c:=by
   unfold ai8;refine List.filter_congr fun f hf=>?_;have hf':=eA4.1 hf;have h3:=h2 f _ (ew4 hf');have h4:((z7 p).givers (i:Int) n).getD f 0=((z7 p).givers (i:Int) n)[f]:=by rw[List.getD,ew4 hf'];rfl
   rw[h4,eJ1];exact h3
  rw[h1,e]
 have hSs:=hsol.isS;have hns:=hsol.vlen;rw[hsl']at hns;have ho9:=ho8.ext hx9;have hrg9:=hrg8.mod hx9 (fun h=>h) (fun h=>h);have hitl:w5.heap.size<w9.heap.size:=by
  obtain⟨_,_,h⟩:=hrg9.cur;exact(ex0.1 h).1
 simp only[m8,n8,simprocAttr,hSs,hns];refine n7 [0,1,5,7,10,12,13,54,64,65] (σ:=Nat×Value) (fun s f w'=>f 66 = .int .i64 s.1∧f 6=s.2∧s.1≤M∧A9 (d7 w5) w' 97 s.2 (pre++(List.range s.1).flatMap (ay5 (z7 p) (i:Int) n))∧o9 (fun b=>w5.heap.size≤b∧b≠w5.heap.size∧(b<w8.heap.size∨w9.heap.size≤b)) w9 w'∧(∀b,A4 s.2 b→w5.heap.size≤b∧b≠w5.heap.size∧(b<w8.heap.size∨w9.heap.size≤b))) (fun s=>M-s.1) (0,vo) (by decide +kernel) ?_ ?_
 ·simp only[p7,simprocAttr];exact⟨by first|rfl|trivial,h6,ex6 _,by rw[List.range_zero,List.flatMap_nil,ez3];exact ho9,o9.refl _,fun b hb=>⟨C5 (ho8.free hb),hvo7 b hb,.inl (ho8.lt hb)⟩⟩
 rintro⟨c,v3⟩ f9 w10 hk ⟨h66,h6c,hcl,ho10,hm10,hvo10⟩;simp only at h66 h6c hcl ho10 hvo10;simp only[ew6,p7,simprocAttr]at hk;obtain⟨k0,k1,k5,k7,k10,k12,k13,k54,k64,k65,_⟩:=hk;rw[g0]at k0;rw[g1]at k1;rw[g5]at k5;rw[g7]at k7;rw[g10]at k10;rw[g54]at k54;simp only[m8,n8,simprocAttr,h66,k65];refine i5 (fun hc3=>?_) (fun hc3=>?_);rotate_left
 ·have hge:c=M:=by simp at hc3;omega
  simp only[m8,simprocAttr];have hrg10:=hrg9.mod hm10 (fun h=>h.2.1 rfl) (fun h=>by have:=h.1;omega);have hx510:=o9.ext_of (hx58.trans hx9) hm10 fun b hb=>hb.1;refine⟨(D++[j],v3),by simp only[ew7,ez4];omega,h6c,hrg10,hx510,?_,fun b hb=>(hvo10 b hb).2.1⟩;simp only[];rw[ez5,eG2,hP,eB1,List.map_nil,hkey,eF7,List.flatMap_nil,ez3];have:ai7 (z7 p) (i:Int) n=(List.range c).flatMap (ay5 (z7 p) (i:Int) n):=by unfold ai7;rw[hbM,hge]
  rw[this];exact ho10
 have hlt3:c<M:=by simpa using hc3
 obtain⟨ur,hur,hcr⟩:=R.row hsol (k:=c) (cC3 (by omega));rw[hrow' c hlt3]at hur;have hN9:=hm10.weaken (N:=fun b=>b<w8.heap.size) fun b hb h=>by rcases h.2.2 with h|h<;>omega
 have hinr:=hsol.inS (k:=c) (by omega);have hldr:=G3 (P:=prog) (t:=112) hcr (C9 hN9) O2;have hSr:=hur.isS;have hnr:=hur.vlen;rw[ex7]at hnr;obtain⟨ut,hut,hct⟩:=R.row hvt (cn7 (T:=fun c=>(z7 p).takes (i:Int) (c:Int)) hlt3);have hint:=hvt.inS (k:=c) (by rw[aV4];exact hlt3);have hp3:(pre++(List.range c).flatMap (ay5 (z7 p) (i:Int) n)).length≤824240800+202*202:=by
  rw[ew7];have h:=bg5 (z7 p) (i:Int) n c;rw[hbM]at h;have h2:c*M≤202*202:=Nat.mul_le_mul (by omega) hM202;exact Nat.add_le_add hpre (ex3 h h2)
 have hfll:=br6 (z7 p) (i:Int) n c;rw[hbM]at hfll;have hfC:ay5 (z7 p) (i:Int) n c=(ai8 (z7 p) (i:Int) n c).flatMap (X3 (z7 p) (i:Int) n c):=rfl;have hflt:∀f∈ai8 (z7 p) (i:Int) n c,f<((z7 p).givers (i:Int) n).length:=fun f hf=>by
  unfold ai8 at hf;exact eA4.1 (eA8.1 hf).1
 generalize ai8 (z7 p) (i:Int) n c=fl at hur hnr hfll hfC hflt;generalize hP3:pre++(List.range c).flatMap (ay5 (z7 p) (i:Int) n)=pre3 at ho10 hp3;simp only[m8,n8,v8,simprocAttr,h66,k64,hinr,hldr,hSr,hnr];refine n7 [0,1,5,7,10,12,13,14,54,64,65,66,71,72] (σ:=Nat×Value) (fun s f w'=>f 73 = .int .i64 s.1∧f 6=s.2∧s.1≤fl.length∧A9 (d7 w5) w' 97 s.2 (pre3++(fl.take s.1).flatMap (X3 (z7 p) (i:Int) n c))∧o9 (fun b=>w5.heap.size≤b∧b≠w5.heap.size∧(b<w8.heap.size∨w9.heap.size≤b)) w9 w'∧(∀b,A4 s.2 b→w5.heap.size≤b∧b≠w5.heap.size∧(b<w8.heap.size∨w9.heap.size≤b))) (fun s=>fl.length-s.1) (0,v3) (by decide +kernel) ?_ ?_
 ·simp only[p7,simprocAttr];exact⟨by first|rfl|trivial,h6c,ex6 _,by rw[eH2,List.flatMap_nil,ez3];exact ho10,hm10,hvo10⟩
 rintro⟨q,v4⟩ f11 w11 hk ⟨h73,h6q,hql,ho11,hm11,hvo11⟩;simp only at h73 h6q hql ho11 hvo11;simp only[ew6,p7,simprocAttr]at hk;obtain⟨l0,l1,l5,l7,l10,l12,l13,l14,l54,l64,l65,l66,l71,l72,_⟩:=hk;rw[k5]at l5;rw[k10]at l10;rw[k12]at l12;rw[k13]at l13;rw[h66]at l66;simp only[m8,n8,simprocAttr,h73,l72];refine i5 (fun hc4=>?_) (fun hc4=>?_);rotate_left
 ·have hge:q=fl.length:=by simp at hc4;omega
  rw[hge,ex5]at ho11;simp only[m8,n8,simprocAttr,l66];refine⟨(c+1,v4),by simp only[];omega,by simp only[];rw[B2 c (by omega)],h6q,by simp only[];omega,?_,hm11,hvo11⟩;simp only[];rw[eH3,eG2,←ey6,hP3,eF7,List.flatMap_nil,ez3,hfC];exact ho11
 have hltq:q<fl.length:=by simpa using hc4
 have hx511:o6 w5 w11:=o9.ext_of (hx58.trans hx9) hm11 fun b hb=>hb.1;have hN11:=hm11.weaken (N:=fun b=>b<w8.heap.size) fun b hb h=>by rcases h.2.2 with h|h<;>omega
 have hur11:R (d7 w11) ur (fl.map fun(f:Nat)=>(f:Int)):=A3.mono (C9 hN11) hur;have hinq:=hur11.inS (k:=q) (by rw[ex7];exact hltq);have hldq:=aH7 hur11 (i4 _) (k:=q) (by rw[ex7];exact hltq);rw[eF6]at hldq;have hldt:=G3 (P:=prog) (t:=22) hct (b7 hx511) M2;have hfg:=hflt _ (ex8 hltq);have htq:=J0 (X3 (z7 p) (i:Int) n c) fl hltq;have hp4:(pre3++(fl.take q).flatMap (X3 (z7 p) (i:Int) n c)).length≤824240800+202*202+202:=by
  rw[ew7];have h:=aF3 (l:=fl.take q) (f:=X3 (z7 p) (i:Int) n c) (B:=1) fun f _=>bg6 _ _ _ _ f;rw[ex4,eF9]at h;omega
 generalize fl[q]=f at hldq hfg htq;have hvat11:R (d7 w11) v (((z7 p).givers (i:Int) n).map fun(a:Nat)=>(a:Int)):=A3.mono (b7 hx511) hvat5;have hinv:=hvat11.inS (k:=f) (by rw[ex7];exact hfg);have hldv:=aH7 hvat11 (i4 _) (k:=f) (by rw[ex7];exact hfg);rw[eF6]at hldv;have hgd:((z7 p).givers (i:Int) n).getD f 0=((z7 p).givers (i:Int) n)[f]:=by rw[List.getD,ew4 hfg];rfl
 have hAM:=ae2 _ _ _ _ (ex8 hfg);rw[hbM]at hAM;have hfo:X3 (z7 p) (i:Int) n c f=if((z7 p).takes (i:Int) (c:Int)).contains n then[⟨(E3 (b9 p) i).place ((((z7 p).givers (i:Int) n)[f]:Nat):Int),(E3 (b9 p) i).place (c:Int),n⟩]else[]:=by
  unfold X3;rw[hgd,hbw]
 generalize((z7 p).givers (i:Int) n)[f]=A at hldv hAM hfo;have htr:=(htk c hlt3).1;have htl:((z7 p).takes (i:Int) (c:Int)).length≤1000000000:=ex3 (htk c hlt3).2 (by decide);simp only[m8,n8,v8,simprocAttr,h73,l71,hinq,hldq,l10,l14,hint,hldt,l12];refine D1 bI2 (aa5 ut _ n w11 (A3.mono (b7 hx511) hut) htl htr) ?_;clear htl htr;rcases ew5 (((z7 p).takes (i:Int) (c:Int)).contains n)with h|h;rotate_left
 ·rw[h,if_neg (by simp)]at hfo;simp only[m8,n8,simprocAttr,h,h73];refine⟨(q+1,v4),by simp only[];omega,by simp only[];rw[B2 q (by omega)],h6q,by simp only[];omega,?_,hm11,hvo11⟩;simp only[];rw[htq,hfo,ez3];exact ho11
 rw[h,if_pos rfl]at hfo;simp only[m8,n8,v8,simprocAttr,h,h6q,l5,l13,hinv,hldv];refine z6 bh5 (aa3 aw _ p i x y (A:Int) w11 (haw.mono (b7 (hx05.trans hx511))) hwy.toWyOk ⟨by omega,by omega⟩) ?_;rintro _ w12 ⟨rfl,hx12⟩;simp only[m8,simprocAttr,l5,l14];refine z6 bh5 (aa3 aw _ p i x y (c:Int) w12 (haw.mono (b7 (hx05.trans (hx511.trans hx12)))) hwy.toWyOk ⟨by omega,by omega⟩) ?_;rintro _ w13 ⟨rfl,hx13⟩;have hx113:=hx12.trans hx13;generalize(E3 (b9 p) i).place (A:Int)=s1 at hfo;generalize(E3 (b9 p) i).place (c:Int)=d1 at hfo;obtain⟨p1,v5,w14,p2,p3,p4,p5⟩:=push (P:=prog) (t:=95) (e:=95) dK1 rfl (ho11.ext hx113) (x:=.agg (t8.cells (⟨s1,d1,n⟩:Fw)).toArray) (y:=⟨s1,d1,n⟩) (bF4 _) (by omega) (by omega) (b7 (hx511.trans hx113));simp only[Value.cells]at p1 p2;have h1113:=hm11.size;have hs113:=hx113.size;simp only[m8,n8,simprocAttr,h73,l12,cr4,p1,p2];refine⟨(q+1,v5),by simp only[];omega,by simp only[];rw[B2 q (by omega)],by trivial,by simp only[];omega,?_,(hm11.trans (o9.up hx113)).trans (p4.weaken fun b _ hb=>hvo11 b hb),fun b hb=>?_⟩
 ·simp only[];rw[htq,hfo,←ey6];exact p3
 ·rcases p5 b hb with h|h
  ·exact hvo11 b h
  ·exact⟨by omega,by omega,.inr (by omega)⟩
theorem aE4(a:Addr)(p:Pg)(i:Nat)(w:World)(ha:At (d7 w) a (z7 p))(hr:F5 p)(hw:D6 p≤1000000)(hi:i<p.procs.length):
  Calls prog 42 #[.pointer (some a),.int .i64 i] w fun e w'=>∃u,e = .returned u∧(∃ui uo,u = .tuple #[ui,uo]∧A9 (d7 w) w' 9 ui ((z7 p).slotsIn (i:Int))∧A9 (d7 w) w' 9 uo ((z7 p).slotsOut (i:Int))∧(∀b,A4 ui b→¬A4 uo b)∧o6 w w'):=by
 refine d9 (args:=[.pointer (some a),.int .i64 i]) hm func42 rfl (by kernel_rfl) (by show 2≤_;decide +kernel) ?_;have hFi:(z7 p).slotsIn (i:Int)=U7 (G8 (ab8 p) (i:Int)++p.procs[i].params.map (·.name)):=by
  unfold Bk.slotsIn;rw[af8 hi];rfl
 have hFo:(z7 p).slotsOut (i:Int)=U7 (G8 (L7 p) (i:Int)++[O1]):=rfl;obtain⟨sh,vw,vd,_,vi,vo,has,hvw,hvd,_,hvi,hvo,ldb,sdb⟩:=ha.book rfl;obtain⟨_,_,_,_,_,_,hpg,_,_⟩:=has.sh;rw[I1]at hpg;obtain⟨vg,vp,hvg,hvp,ldp,sdp⟩:=hpg.pg;have lb:=ldb w (i4 _);have hhw:∀w',o6 w w'→B4 (d7 w) (d7 w'):=fun w' hx=>b7 hx;obtain⟨hrow,hrise,hfew⟩:=(aF6 hr hw).row hi;generalize G8 (ab8 p) (i:Int)=row at hrow hrise hfew hFi;obtain⟨ui,hui,hci⟩:=R.row hvi (show(z7 p).ins[i]?=some row from hrow);have hini:=hvi.inS (k:=i) (show i<(ab8 p).length from(ex1.1 hrow).1);have hli:=G3 (P:=prog) (t:=22) hci (i4 _) M2;obtain⟨hrow2,hrise2,hfew2⟩:=(at3 hr.may).row hi;generalize G8 (L7 p) (i:Int)=row2 at hrow2 hrise2 hfew2 hFo;obtain⟨uo,huo,hco⟩:=R.row hvo (show(z7 p).outs[i]?=some row2 from hrow2);have hino:=hvo.inS (k:=i) (show i<(L7 p).length from(ex1.1 hrow2).1);simp only[m8,n8,v8,H5,I7.val,simprocAttr,lb,hini,hli];refine z6 cc1 (am7 ui row w hui (by omega)) ?_;rintro u2 w2 ⟨ho2,hx2⟩;have lb2:=ldb w2 (hhw w2 hx2);have lp2:=ldp w2 (hhw w2 hx2);have hatp:=hvp.at_ (i:=i) (x:=p.procs[i]) (ew4 hi);have hinp:=hvp.inS (k:=i) hi;have hz5:A3.sz Pr=5:=rfl;rw[hz5]at hatp;obtain⟨vpa,_,_,_,hvpa,_,_,_,ldr,_⟩:=hatp.pr;have lr2:=ldr w2 (hhw w2 hx2);have hpl:=N6 hr.may hi;generalize p.procs[i].params=pas at hvpa hpl hFi;have hSp:=hvpa.isS;have hnp:=hvpa.vlen;simp only[m8,n8,v8,H5,I7.val,simprocAttr,lb2,lp2,hinp,lr2,hSp,hnp];refine n7 [0,1,27,28] (σ:=Nat×Value) (fun s f w'=>f 29 = .int .i64 s.1∧f 4=s.2∧s.1≤pas.length∧A9 (d7 w) w' 9 s.2 (row++(pas.take s.1).map (·.name))∧o6 w w') (fun s=>pas.length-s.1) (0,u2) (by decide +kernel) ?_ ?_
 ·simp only[p7,simprocAttr];exact⟨by first|rfl|trivial,trivial,ex6 _,by simpa using ho2,hx2⟩
 rintro⟨j,u⟩ f w3 hk ⟨h29,h4,hjl,ho,hx3⟩;simp only at h29 h4 hjl ho;simp only[ew6,p7,simprocAttr]at hk;obtain⟨e0,e1,e27,e28,_⟩:=hk;simp only[m8,n8,v8,H5,I7.val,simprocAttr,h29,e27,e28];refine i5 (fun hc=>?_) (fun hc=>?_)
 ·have hlt:j<pas.length:=by simpa using hc
  have hin:=hvpa.inS hlt;obtain⟨sv,hsv,hld⟩:=F4 (P:=prog) (t:=68) hvpa (hhw w3 hx3) (ew4 hlt) bb2 bb7 bb5 ap0;rw[ap0]at hld;have htk:=aC8 (fun q:Pa=>q.name) pas hlt;generalize pas[j]=pa at hsv htk;obtain⟨d,wz,w4,hal,hst,hx4,hat⟩:=aG7 (hsv.mono (hhw w3 hx3)) (i4 _);obtain⟨ld4,_⟩:=hat.pa;have l4:=ld4 w4 (i4 _);obtain⟨p1,u5,w5,p2,p3,p4,p5⟩:=at7 (e:=22) (ho.ext hx4) pa.name (by rw[ew7,ex7,ex4];omega) (b7 (hx3.trans hx4));simp only[m8,n8,v8,H5,I7.val,simprocAttr,h29,h4,e27,e28,hin,hld,hal,hst,l4,p1,p2];refine⟨(j+1,u5),by simp only[];omega,by simp only[];rw[B2 j (by omega)],by trivial,by simp only[];omega,?_,(ho.ext hx4).ext2 (hx3.trans hx4) p4⟩;simp only[];rw[htk,←ey6];exact p3
 have hge:j=pas.length:=by simp at hc;omega
 subst hge;rw[ex5]at ho;have lb3:=ldb w3 (hhw w3 hx3);have hlo:=G3 (P:=prog) (t:=22) hco (hhw w3 hx3) M2;simp only[m8,n8,v8,H5,I7.val,simprocAttr,e0,e1,lb3,hino,hlo];refine z6 cc1 (am7 uo row2 w3 (A3.mono (hhw w3 hx3) huo) (by omega)) ?_;rintro u4 w4 ⟨ho4,hx4⟩;obtain⟨p1,u5,w5,p2,p3,p4,p5⟩:=at7 (e:=22) ho4 O1 (by omega) (b7 hx4);have p1':(Instr.buildSlice 22 1 #[(0,.string ⟨#[36,114,101,116]⟩)]).run prog w4=_:=p1;have hap4:∀b,A4 u b→¬A4 u4 b:=fun b h1 h2=>by
  have:=ho.lt h1;have:=C5 (ho4.free h2);omega
 have hap5:∀b,A4 u b→¬A4 u5 b:=fun b h1 h2=>by
  have:=ho.lt h1;have:=C5 (p3.free h2);omega
 have hoi5:=(ho.ext hx4).mod p4 hap4;have hx5:o6 w w5:=hx3.trans (ho4.ext2 hx4 p4);simp only[m8,n8,v8,H5,I7.val,simprocAttr,p1',p2,h4];refine z6 bH9 (al6 hoi5 (by rw[ew7,ex7];omega)) ?_;rintro u6 w6 ⟨ho6,hm6⟩;have hoo6:=(p3.mod hm6 fun b h1 h2=>hap5 b h2 h1).back hx3;simp only[m8,n8,v8,H5,I7.val,simprocAttr];refine z6 bH9 (al6 hoo6 (by rw[ew7,ez4];omega)) ?_;rintro u7 w7 ⟨ho7,hm7⟩;simp only[m8,n8,v8,H5,I7.val,simprocAttr];refine ad4 results42 ?_;simp only[p7,simprocAttr];rw[hFi,hFo];exact⟨u,u5,by rw[h4],ho6.mod hm7 hap5,ho7,hap5,hoo6.ext2 (hoi5.ext2 hx5 hm6) hm7⟩
theorem bU2(n:A6)(w:World):Calls prog 103 #[o7 n] w fun e w'=>∃u,e = .returned u∧(u = .bool (decide (n=O1))∧w'=w):=by
 refine d9 (args:=[o7 n]) hm func103 rfl (by kernel_rfl) (by show 1≤_;decide +kernel) ?_;have he:=fun(P:Program) (t:TypeId)=>bZ4 (P:=P) (t:=t) (a:=n) (b:=O1);have hg:o7 O1 = .string ⟨#[36,114,101,116]⟩:=rfl;simp only[hg]at he;simp only[m8,n8,simprocAttr,he];refine n9 results103 ?_;simp only[p7,simprocAttr];exact⟨by trivial,by trivial⟩
theorem cs3(q:A6)(k d:Int)(n:A6):C0 prog 36 [(0,o7 q),(1,.int .i64 k),(2,.int .i64 d),(3,o7 n)]=some (.agg (t8.cells (⟨q,k,d,n⟩:Vx)).toArray):=by
 simp[C0,ce8,J3,Instr.fill,Value.cells,o7];rfl
def G7(a:Addr)(i:Int)(q:A6)(c1 c2 c3 c4 vv ve:Value):Array Value:=#[.pointer (some a),.int .i64 i,o7 q,c1,c2,c3,c4,vv,ve]
theorem H7(gb:Nat)(T:TypeId)(cs0:Array Value)(q:A6)(k d:Int)(n:A6)(w:World)(hb:w.heap[gb]?=some (.cells cs0 T (0,0)))(hq:cs0[2]?=some (o7 q)):
  Calls prog 55 #[.pointer (some ⟨gb,0,none⟩),.int .i64 k,.int .i64 d,o7 n] w fun e w'=>∃u,e = .returned u∧(u = .agg (t8.cells (⟨q,k,d,n⟩:Vx)).toArray∧o6 w w'):=by
 refine d9 (args:=[.pointer (some ⟨gb,0,none⟩),.int .i64 k,.int .i64 d,o7 n]) hm func55 rfl (by kernel_rfl) (by show 4≤_;decide +kernel) ?_;have hfc:t8.cells (⟨q,k,d,n⟩:Vx)=[o7 q,.int .i64 k,.int .i64 d,o7 n]:=rfl;obtain⟨h1,h2⟩:=aH8 (P:=prog) (w:=w) (T:=36) bv7 rfl (cs:=#[o7 q,.int .i64 k,.int .i64 d,o7 n]) (by rw[Y6];rfl) (by simp[Value.oneCell',o7]);have hbv:=cs3 q k d n;rw[hfc]at hbv ⊢;have hb1:=fun o=>((o6.alloc w o).block gb (ex0.1 hb).1 id).trans hb;have hl:=fun o=>F0 (P:=prog) (t:=9) (i:=2) (u:=o7 q) (hb1 o) hq S0;have hlda:=R2 (P:=prog) (T:=36) (eA5 w (.cells #[o7 q,.int .i64 k,.int .i64 d,o7 n] 36)) aI8 aJ0 az5 (by rw[Y6];rfl);simp only[m8,n8,simprocAttr,h1,hl,hbv,h2];refine L0 results55 (ad:=⟨w.heap.size,0,none⟩) (by simp only[p7,simprocAttr]) hlda ?_;exact⟨rfl,o6.alloc _ _⟩
theorem aj0:ag0 prog 55=true:=by kernel_rfl
theorem BM.rebase{α β:Type}[A3 α][A3 β]{H H':Hp}{w0 wz w:World}{Z:Nat→Prop}{gb:Nat}{TB TX TY:TypeId}{cells:Value→Array Value}{vx vy:Value}{xs:List α}{ys:List β}(s:BM H w0 wz w Z gb TB TX TY cells vx vy xs ys)(h:B4 H' (B8 w (nB gb vx vy Z))):BM H' w0 wz w Z gb TB TX TY cells vx vy xs ys:=
 ⟨s.ext,s.ge,s.cb,s.ox,s.oy,s.dx,s.dy,s.dz,s.zk,s.sz,h⟩
abbrev PV(H:Hp)(w0 w:World)(gb:Nat)(a:Addr)(i:Int)(q:A6)(c1 c2 c3 c4 vx:Value)(xs:List Vx):Prop:=
 BM (α:=Vx) (β:=Int) H w0 w0 w (fun _=>False) gb 116 36 3 (fun v=>G7 a i q c1 c2 c3 c4 v (.slice none 0 0)) vx (.slice none 0 0) xs []
abbrev PE(H:Hp)(w0 w:World)(gb:Nat)(a:Addr)(i:Int)(q:A6)(c1 c2 c3 c4 vx:Value)(xs:List Eg):Prop:=
 BM (α:=Eg) (β:=Int) H w0 w0 w (fun _=>False) gb 116 60 3 (fun v=>G7 a i q c1 c2 c3 c4 (.slice none 0 0) v) vx (.slice none 0 0) xs []
abbrev nP(gb:Nat)(vx:Value):Nat→Prop:=nB gb vx (.slice none 0 0) fun _=>False
theorem cY0:∃inf,prog.info? 30=some inf∧inf.size=1:=aR3 dY4 da4
theorem dG6:∃inf,prog.info? 32=some inf∧inf.size=1:=aR3 dY5 da5
theorem aG1(H:Hp)(gb:Nat)(a:Addr)(i:Int)(q:A6)(c1 c2 c3 c4 vx:Value)(xs:List Vx)(k d:Int)(u:Value)(ns:List A6)(w0 w:World)(s:PV H w0 w gb a i q c1 c2 c3 c4 vx xs)(hu:R (B8 w (nP gb vx)) u ns)(hl:xs.length+ns.length≤1000000):
  Calls prog 56 #[.pointer (some ⟨gb,0,none⟩),.int .i64 k,.int .i64 d,u] w fun e w'=>∃r,e = .returned r∧(∃vx',PV (B8 w (nP gb vx)) w0 w' gb a i q c1 c2 c3 c4 vx' (xs++ns.map fun n=>⟨q,k,d,n⟩)):=by
 refine d9 (args:=[.pointer (some ⟨gb,0,none⟩),.int .i64 k,.int .i64 d,u]) hm func56 rfl (by kernel_rfl) (by show 4≤_;decide +kernel) ?_;have hS:=hu.isS;have hn:=hu.vlen;obtain⟨il,hil,hil1⟩:=cY0;simp only[m8,n8,simprocAttr,hS,hn];refine n7 [0,1,2,10,11] (σ:=Nat×Value) (fun t f w'=>f 12 = .int .i64 t.1∧t.1≤ns.length∧PV (B8 w (nP gb vx)) w0 w' gb a i q c1 c2 c3 c4 t.2 (xs++(ns.take t.1).map fun n=>⟨q,k,d,n⟩)) (fun t=>ns.length-t.1) (0,vx) (by decide +kernel) ?_ ?_
 ·simp only[p7,simprocAttr];exact⟨by trivial,ex6 _,by simpa using s.rebase (i4 _)⟩
 clear s;rintro⟨j,v⟩ f w1 hk ⟨h12,hjl,s⟩;simp only at h12 hjl s;simp only[ew6,p7,simprocAttr]at hk;obtain⟨e0,e1,e2,e10,e11,_⟩:=hk;simp only[m8,n8,simprocAttr,h12,e11];refine i5 (fun hc=>?_) (fun hc=>?_);rotate_left
 ·have hge:j=ns.length:=by simp at hc;omega
  subst hge;rw[ex5]at s;simp only[m8,simprocAttr];refine cC1 results56 ?_;exact⟨v,s⟩
 have hlt:j<ns.length:=by simpa using hc
 have hin:=hu.inS hlt;have hld:=ldS hu s.hb hlt;have htk:=aC8 (fun n:A6=>(⟨q,k,d,n⟩:Vx)) ns hlt;have hxl:(xs++(ns.take j).map fun n=>(⟨q,k,d,n⟩:Vx)).length+1≤1000000:=by rw[ew7,ex7,ex4];omega
 generalize ns[j]=n at hld htk;generalize hys:xs++(ns.take j).map (fun n=>(⟨q,k,d,n⟩:Vx))=ys at s hxl;have s2:=s.more (o6.drew w1);have hcb:∀w',o9 (A4 v) w1.drew w'→w'.heap[gb]?=some (.cells (G7 a i q c1 c2 c3 c4 v (.slice none 0 0)) 116 (0,0)):=fun w' hm=>(hm.block gb (ex0.1 s2.cb).1 fun h=>(s2.dx gb h).2.1 rfl).trans s2.cb;have k7:∀K f d w0',B6 prog (fun w'=>o9 (A4 v) w1.drew w') (Instr.loadAt 30 (.pointer (some ⟨gb,7,none⟩))) K f d w0'=K (A7 f d v) w0':=fun K f d w0'=>A0 (w0:=w1.drew) (o9.refl _) fun w' h=>F0 (i:=7) (u:=v) (hcb w' h) rfl bv5;simp only[m8,n8,v8,simprocAttr,h12,e10,hin,hld];refine C2 (fun w'=>o9 (A4 v) w1.drew w') 12 (B0 [0,1,2,3,4,5,6,7,8,9,10,11]) (by decide +kernel) (o9.refl _) ?_;simp only[D5,B0,m8,n8,simprocAttr,e0,e1,e2,k7];refine z6 aj0 (H7 gb _ _ q k d n w1.drew s2.cb rfl) ?_;rintro _ w3 ⟨rfl,hx3⟩;refine⟨o9.up hx3,?_⟩;have s3:=s2.more hx3;obtain⟨p1,v',w4,w5,p2,p3,s5,p4⟩:=s3.push (P:=prog) (e:=30) bL9 rfl (x:=.agg (t8.cells (⟨q,k,d,n⟩:Vx)).toArray) (y:=⟨q,k,d,n⟩) ((t8.iff_ _ _ _).2 rfl) (by omega) (by omega) (ix:=7) (by simp[G7]) (fun v v'=>by simp[G7]) hil hil1;simp only[D5,m8,n8,simprocAttr,p1,p2,F6];refine⟨(o9.up hx3).trans (o9.up (o6.alloc _ _)),(o9.up hx3).trans p4,?_⟩;simp only[m8,n8,simprocAttr,h12,p3];refine⟨(j+1,v'),by simp only[];omega,by simp only[];rw[B2 j (by omega)],by simp only[];omega,?_⟩;simp only[];rw[htk,←ey6,hys];exact s5
theorem bE4(x y:Vx)(k:Int):C0 prog 60 [(0,.agg (t8.cells x).toArray),(1,.agg (t8.cells y).toArray),(2,.int .i64 k)]=some (.agg (t8.cells (⟨x,y,k⟩:Eg)).toArray):=by
 have hx:∀x:Vx,t8.cells x=[o7 x.proc,.int .i64 x.kind,.int .i64 x.id,o7 x.slot]:=fun _=>rfl;have he:t8.cells (⟨x,y,k⟩:Eg)=[o7 x.proc,.int .i64 x.kind,.int .i64 x.id,o7 x.slot,o7 y.proc,.int .i64 y.kind,.int .i64 y.id,o7 y.slot,.int .i64 k]:=rfl;rw[hx,hx,he];simp[C0,da0,J3,Instr.fill,Value.cells,o7]
theorem ae7(H:Hp)(gb:Nat)(a:Addr)(i:Int)(q:A6)(c1 c2 c3 c4 vx:Value)(xs:List Eg)(x y:Vx)(k:Int)(w0 w:World)(s:PE H w0 w gb a i q c1 c2 c3 c4 vx xs)(hl:xs.length≤1000000000):
  Calls prog 62 #[.pointer (some ⟨gb,0,none⟩),.agg (t8.cells x).toArray,.agg (t8.cells y).toArray,.int .i64 k] w fun e w'=>∃r,e = .returned r∧(∃vx',PE H w0 w' gb a i q c1 c2 c3 c4 vx' (xs++[⟨x,y,k⟩])):=by
 refine d9 (args:=[.pointer (some ⟨gb,0,none⟩),.agg (t8.cells x).toArray,.agg (t8.cells y).toArray,.int .i64 k]) hm func62 rfl (by kernel_rfl) (by show 4≤_;decide +kernel) ?_;obtain⟨il,hil,hil1⟩:=dG6;obtain⟨a1,w1,hb1,hx1,hat1⟩:=ca1 (w:=w) (A4 vx) (SV.ofN (d7 w) x) fun b hb=>s.ox.lt hb;have s1:=s.more hx1;obtain⟨a2,w2,hb2,hx2,hat2⟩:=ca1 (w:=w1) (A4 vx) (SV.ofN (d7 w1) y) fun b hb=>s1.ox.lt hb;have s3:=(s1.more hx2).more (o6.drew w2);have hcb:∀w',o9 (A4 vx) w2.drew w'→w'.heap[gb]?=some (.cells (G7 a i q c1 c2 c3 c4 (.slice none 0 0) vx) 116 (0,0)):=fun w' hm=>(hm.block gb (ex0.1 s3.cb).1 fun h=>(s3.dx gb h).2.1 rfl).trans s3.cb;have k8:∀K f d w0',B6 prog (fun w'=>o9 (A4 vx) w2.drew w') (Instr.loadAt 32 (.pointer (some ⟨gb,8,none⟩))) K f d w0'=K (A7 f d vx) w0':=fun K f d w0'=>A0 (w0:=w2.drew) (o9.refl _) fun w' h=>F0 (i:=8) (u:=vx) (hcb w' h) rfl cG6;have t1:=(I4.vx_v (SV.ofN (d7 w) x) hat1).2 (fun w'=>o9 (A4 vx) w2.drew w') w2.drew (o9.refl _) fun w' h=>C9 ((o9.up (M:=A4 vx) (hx2.trans (o6.drew w2))).trans h);have t2:=(I4.vx_v (SV.ofN (d7 w1) y) hat2).2 (fun w'=>o9 (A4 vx) w2.drew w') w2.drew (o9.refl _) fun w' h=>C9 ((o9.up (M:=A4 vx) (o6.drew w2)).trans h);have hbe:=bE4 x y k;obtain⟨p1,v',w4,w5,p2,p3,s5,p4⟩:=s3.push (P:=prog) (e:=32) bL8 rfl (x:=.agg (t8.cells (⟨x,y,k⟩:Eg)).toArray) (y:=⟨x,y,k⟩) ((t8.iff_ _ _ _).2 rfl) (by omega) (by omega) (ix:=8) (by simp[G7]) (fun v v'=>by simp[G7]) hil hil1;simp only[m8,n8,simprocAttr,hb1,hb2];refine C2 (fun w'=>o9 (A4 vx) w2.drew w') 11 (B0 [0,1,2,3,4,5,6,7,8,9,10]) (by decide +kernel) (o9.refl _) ?_;simp only[D5,B0,m8,n8,simprocAttr,k8,t1,t2,hbe,p1,p2,F6];refine⟨o9.up (o6.alloc _ _),p4,?_⟩;simp only[m8,simprocAttr,p3];refine cC1 results62 ?_;exact⟨v',s5⟩
theorem ee3:ag0 prog 102=true:=by kernel_rfl
theorem dc6:ag0 prog 103=true:=by kernel_rfl
theorem cx6:ag0 prog 42=true:=by kernel_rfl
instance:t8 A6:=⟨fun s=>[o7 s],fun _ _ _=>eD5⟩
theorem bh8{α:Type}(p:α→Bool):∀(l:List α) (i:Nat),V3 p i l ≠ -1→∃k,V3 p i l=((i+k:Nat):Int)∧(∃x,l[k]?=some x∧p x=true)∧∀j y,j<k→l[j]?=some y→p y=false
 | [],i,h=>absurd rfl h
 | x::l,i,h=>by
  rw[V3]at h ⊢;cases hp:p x
  ·rw[hp,if_neg (by simp)]at h;rw[if_neg (by simp)];obtain⟨k,h1,⟨y,h2,h3⟩,h4⟩:=bh8 p l (i+1) h;refine⟨k+1,by rw[h1];congr 1;omega,⟨y,by simpa using h2,h3⟩,fun j z hj hz=>?_⟩;cases j with
   | zero=>
    obtain rfl:x=z:=by simpa using hz
    exact hp
   | succ j=>exact h4 j z (by omega) (by simpa using hz)
  ·rw[if_pos rfl];exact⟨0,by simp,⟨x,rfl,hp⟩,fun j y hj=>by omega⟩
theorem aB7{α:Type}(p:α→Bool):∀(l:List α),(∀(j:Nat) y,l[j]?=some y→p y=true)→l.filter p=l
 | [],_=>rfl
 | x::l,h=>by
  rw[List.filter_cons,if_pos (h 0 x rfl),aB7 p l fun j y hj=>h (j+1) y (by simpa using hj)]
theorem dG7:∃inf,prog.info? 9=some inf∧inf.size=1:=aR3 dY8 dW5
theorem ct7{h:Hp}{w:World}{v:Value}{xs:List A6}(ho:A9 h w 9 v xs)(hl:xs.length≤1000000)(hh:B4 h (d7 w)):
  Calls prog 102 #[v,.func (.func 103) #[] #[]] w fun e w'=>∃u,e = .returned u∧(A9 h w' 9 u (xs.filter fun n=>!decide (n=O1))∧o9 (A4 v) w w'∧∀b,A4 u b→A4 v b):=by
 refine d9 (args:=[v,.func (.func 103) #[] #[]]) hm func102 rfl (by kernel_rfl) (by show 2≤_;decide +kernel) ?_;have hS:=ho.isS;have hn:=ho.vlen;have hvc:=ho.vcap;obtain⟨il,hil,hil1⟩:=dG7;have hpred:∀(x:A6) (w':World),Calls prog 103 ([o7 x]++(#[]:Array Value).toList).toArray w' fun e w''=>∃u,e = .returned u∧(u = .bool (decide (x=O1))∧o6 w' w''):=fun x w'=>(bU2 x w').mono fun e w'' ⟨u,h1,h2,h3⟩=>⟨u,h1,h2,by rw[h3];exact o9.refl _⟩;generalize hP:(fun n:A6=>decide (n=O1))=pred at hpred;have hPn:∀n:A6,decide (n=O1)=pred n:=fun n=>by rw[←hP]
 simp only[hPn]at hpred ⊢;simp only[m8,n8,simprocAttr];refine B7 dd3 (aA1 pred 103 #[] v xs w dc6 (ho.rw_ hh) (by omega) fun x w' _ _=>hpred x w') (fun w1 hx1=>?_);rcases ew5 (decide (V3 pred 0 xs = -1))with hq|hq
 ·have e:=ew8 hq;simp only[m8,n8,simprocAttr,hq];refine n9 results102 ?_;simp only[p7,simprocAttr];have hno:xs.any pred=false:=by rw[←as5 pred xs 0,e];rfl
  rw[aB7 _ _ fun j y hj=>by
   have:=List.any_eq_false.1 hno y (ey5 hj);simpa using this]
  exact⟨ho.ext hx1,o9.up hx1,fun b hb=>hb⟩
 obtain⟨k,hk0,⟨xk,hxk,hpk⟩,hfst⟩:=bh8 pred xs 0 (ew9 hq);rw[ez8]at hk0;generalize V3 pred 0 xs=z at hq hk0 ⊢;obtain⟨hkl,rfl⟩:=ex1.1 hxk;have hk1:IntKind.i64.wrap (z+1)=((k+1:Nat):Int):=by rw[hk0];exact B2 k (by omega)
 have htk0:(xs.take (k+1)).filter (fun n=>!pred n)=xs.take k:=by
  rw[ah0 _ xs hkl,hpk,if_neg (by simp),ez3];refine aB7 _ _ fun j y hj=>?_;rw[eF2]at hj;split at hj
  ·rename_i hjk;rw[hfst j y hjk hj];rfl
  ·cases hj
 simp only[m8,n8,simprocAttr,hq,hk1];refine n7 [0,1] (σ:=Nat×Nat×List A6) (fun s f w'=>f 6 = .int .i64 s.1∧f 5 = .int .i64 s.2.1∧s.1≤xs.length∧s.2.1<s.1∧s.2.2.length=xs.length∧A9 h w' 9 v s.2.2∧(∀m,s.1≤m→s.2.2[m]?=xs[m]?)∧s.2.2.take s.2.1=(xs.take s.1).filter (fun n=>!pred n)∧o9 (A4 v) w w') (fun s=>xs.length-s.1) (k+1,k,xs) (by decide +kernel) ?_ ?_
 ·simp only[p7,simprocAttr];exact⟨by trivial,by rw[hk0],by omega,by omega,by trivial,ho.ext hx1,fun _ _=>by trivial,htk0.symm,o9.up hx1⟩
 rintro⟨j,c,ys⟩ f w2 hk ⟨h6,h5,hjl,hcj,hyl,hoy,hsuf,hpre,hm2⟩;simp only at h6 h5 hjl hcj hyl hoy hsuf hpre;simp only[ew6,p7,simprocAttr]at hk;obtain⟨e0,e1,_⟩:=hk;simp only[m8,n8,simprocAttr,h6,e0,hS,hn];refine i5 (fun hc=>?_) (fun hc=>?_)
 ·have hlt:j<xs.length:=by simpa using hc
  have hyj:ys[j]?=some xs[j]:=by rw[hsuf j (ex9 _),ew4 hlt]
  have hin:=hoy.inS (k:=j) (by omega);have hld:(Instr.loadAt 9 (.pointer (some (H1 v j)))).run prog w2 = .ok (o7 xs[j]) w2:=D4 hoy hyj S0;have htk:=ah0 (fun n=>!pred n) xs hlt;generalize xs[j]=n at hld hyj htk;simp only[m8,n8,v8,simprocAttr,h6,e0,e1,hin,hld,eG1];refine B7 dc6 (hpred n w2) (fun w3 hx3=>?_);have hm3:o9 (A4 v) w w3:=hm2.trans (o9.up hx3);rcases ew5 (pred n)with hp|hp
  ·rw[hp,if_neg (by simp),ez3]at htk;simp only[m8,n8,simprocAttr,hp,h6];refine⟨(j+1,c,ys),by simp only[];omega,by simp only[];rw[B2 j (by omega)],h5,by simp only[];omega,by simp only[];omega,hyl,hoy.ext hx3,fun m hm=>hsuf m (by simp only at hm;omega),?_,hm3⟩;simp only[];rw[hpre,htk]
  ·rw[hp,if_pos (by simp)]at htk;have hin2:=hoy.inS (k:=c) (by omega);obtain⟨w4,q1,q2,q3,_⟩:=E1 (P:=prog) (t:=9) (hoy.ext hx3) rfl (k:=c) (by omega) (x:=o7 n) (y:=n) rfl rfl hil hil1;simp only[m8,n8,v8,simprocAttr,hp,h6,h5,e0,hin2,q1];refine⟨(j+1,c+1,ys.set c n),by simp only[];omega,by simp only[];rw[B2 j (by omega)],by simp only[];rw[B2 c (by omega)],by simp only[];omega,by simp only[];omega,by simp only[eD7];exact hyl,q2,fun m hm=>?_,?_,hm3.trans q3⟩
   ·simp only at hm ⊢;rw[eE6 (by omega)];exact hsuf m (by omega)
   ·simp only[];have hcs:c<(ys.set c n).length:=by rw[eD7];omega
    rw[ex2 hcs,List.getElem_set_self,List.take_set_of_le (ex9 _),hpre,htk]
 ·have hge:j=xs.length:=by simp at hc;omega
  subst hge;rw[ex5]at hpre;have c3:decide ((c:Int)≤(xs.length:Int))=true:=by simp;omega
  have c4:decide ((c:Int)≤(vcap v:Int))=true:=by simp;omega
  have c5:decide ((xs.length:Int)≤(vcap v:Int))=true:=by simp;omega
  obtain⟨w6,e6,ho6,hm6,hb6⟩:=aU9 (P:=prog) (t:=22) (ty:=0) hoy rfl dY8 rfl (by simp[Value.cells,Value.oneCell']) (i:=c) (by omega);have hz:A3.sz A6=1:=rfl;rw[hyl,hz]at e6;rw[hz]at ho6 hb6;simp only[m8,n8,H5,simprocAttr,bj0,h5,e0,hS,hn,c3,c4,c5,e6];refine n9 results102 ?_;simp only[p7,simprocAttr];exact⟨by rw[←hpre];exact ho6,hm2.trans hm6,hb6⟩
theorem co1(gb:Nat)(T:TypeId)(cs0:Array Value)(a:Addr)(p:Pg)(vs:Value)(s:St)(c:Nat)(w:World)(hb:w.heap[gb]?=some (.cells cs0 T (0,0)))(hc0:cs0[0]?=some (.pointer (some a)))(ha:At (d7 w) a (z7 p))(hr:F5 p)(hw:D6 p≤1000000)(hv:SV (d7 w) vs s)(hc:aJ4 p s c):
  Calls prog 58 #[.pointer (some ⟨gb,0,none⟩),vs] w fun e w'=>∃u,e = .returned u∧(∃ui uo,u = .tuple #[ui,uo]∧A9 (d7 w) w' 9 ui ((z7 p).slotsIn (c:Int))∧A9 (d7 w) w' 9 uo ((z7 p).callOut s)∧(∀b,A4 ui b→¬A4 uo b)∧o6 w w'):=by
 refine d9 (args:=[.pointer (some ⟨gb,0,none⟩),vs]) hm func58 rfl (by kernel_rfl) (by show 2≤_;decide +kernel) ?_;have hF:(z7 p).callOut s=if s.name=e0 then((z7 p).slotsOut (c:Int)).filter fun n=>!decide (n=O1)else(z7 p).slotsOut (c:Int):=by
  have e:(z7 p).s.pr s.proc=(c:Int):=hc.pr;unfold Bk.callOut;rw[e]
 have hfew:((z7 p).slotsOut (c:Int)).length≤1000000:=by
  have h1:(z7 p).slotsOut (c:Int)=U7 (G8 (L7 p) (c:Int)++[O1]):=rfl;have:=((at3 hr.may).row hc.lt).2.2;rw[h1,Q8,ew7,ez4];omega
 obtain⟨d,w1,hb1,hx1,hat⟩:=aj6 hv (i4 _);obtain⟨sv,hsv,_,sdv⟩:=hat.st_v;obtain⟨_,_,_,_,_,_,_,_,_,lds,_⟩:=hat.st;have hx1d:=hx1.trans (o6.drew w1);have k0:∀K f d w0',B6 prog (fun w'=>o6 w1.drew w') (Instr.loadAt 78 (.pointer (some ⟨gb,0,none⟩))) K f d w0'=K (A7 f d (.pointer (some a))) w0':=fun K f d w0'=>A0 (w0:=w1.drew) (o9.refl _) fun w' h=>F0 (i:=0) (((hx1d.trans h).block gb (ex0.1 hb).1 id).trans hb) hc0 bb3;have t1:=sdv (fun w'=>o6 w1.drew w') w1.drew (o9.refl _) fun w' h=>b7 ((o6.drew w1).trans h);simp only[m8,n8,simprocAttr,hb1];refine C2 (fun w'=>o6 w1.drew w') 15 (B0 [0,1,2,3,4,5,6,7,8,9,10,11,12,13,14]) (by decide +kernel) (o9.refl _) ?_;simp only[D5,B0,m8,n8,simprocAttr,k0,t1];refine B7 bz0 (am1 a (z7 p) p sv s w1.drew (ha.mono (b7 hx1d)) rfl hr.may (hsv.mono (b7 (o6.drew w1)))) (fun w2 hx2=>⟨hx2,?_⟩);rw[hc.pr];have hx02:=hx1d.trans hx2;simp only[D5,m8,simprocAttr];refine z6 cx6 (aE4 a p c w2 (ha.mono (b7 hx02)) hr hw hc.lt) ?_;rintro _ w3 ⟨ui,uo,rfl,hoi,hoo,hdj,hx3⟩;refine⟨hx2.trans hx3,?_⟩;have hx03:=hx02.trans hx3;have l3:=lds w3 (b7 ((o6.drew w1).trans (hx2.trans hx3)));rcases ew5 (decide (s.name=ofA #[]))with h1|h1
 ·simp only[D5,m8,n8,simprocAttr,l3,h1];have e1:s.name=e0:=ew8 h1;refine z6 ee3 (ct7 hoo hfew (b7 hx3)) ?_;rintro u4 w4 ⟨ho4,hm4,hb4⟩;simp only[m8,simprocAttr];refine ad4 results58 ?_;simp only[p7,simprocAttr];rw[hF,if_pos e1];exact⟨ui,u4,by trivial,(hoi.mod hm4 fun b h1 h2=>hdj b h1 h2).back hx02,ho4.back hx02,fun b h1 h2=>hdj b h1 (hb4 b h2),hx02.trans (hoo.ext2 hx3 hm4)⟩
 ·simp only[D5,m8,n8,simprocAttr,l3,h1];have e1:s.name≠e0:=ew9 h1;refine ad4 results58 ?_;simp only[p7,simprocAttr];rw[hF,if_neg e1];exact⟨ui,uo,by trivial,hoi.back hx02,hoo.back hx02,hdj,hx03⟩
theorem cx7:ag0 prog 56=true:=by kernel_rfl
theorem es8:ag0 prog 58=true:=by kernel_rfl
theorem es9:ag0 prog 59=true:=by kernel_rfl
theorem bE5(a:Addr)(i:Int)(q:A6)(c1 c2 c3 c4:Value):C0 prog 116 [(0,.pointer (some a)),(1,.int .i64 i),(2,.agg #[o7 q,c1,c2,c3,c4])]=some (.agg (G7 a i q c1 c2 c3 c4 (.slice none 0 0) (.slice none 0 0))):=by
 unfold G7;simp[C0,cG8,J3,Instr.fill,Value.cells,o7]
theorem PV.new{w w2:World}(a:Addr)(i:Int)(q:A6)(c1 c2 c3 c4:Value)(hx:o6 (w.alloc (.cells (G7 a i q c1 c2 c3 c4 (.slice none 0 0) (.slice none 0 0)) 116)) w2):
  PV (B8 w2 (nP w.heap.size (.slice none 0 0))) w w2 w.heap.size a i q c1 c2 c3 c4 (.slice none 0 0) []∧PE (B8 w2 (nP w.heap.size (.slice none 0 0))) w w2 w.heap.size a i q c1 c2 c3 c4 (.slice none 0 0) []:=by
 have hx2:o6 w w2:=(o6.alloc _ _).trans hx;have hcb:w2.heap[w.heap.size]?=some (.cells (G7 a i q c1 c2 c3 c4 (.slice none 0 0) (.slice none 0 0)) 116 (0,0)):=(hx.block _ (by simp) id).trans (eA5 w _);exact⟨⟨hx2,ex9 _,hcb,A9.nil _ _ _,A9.nil _ _ _,fun b h=>absurd h D0,fun b h=>absurd h D0,fun b h=>h.elim,fun b h=>h.elim,hx2.size,i4 _⟩,
  ⟨hx2,ex9 _,hcb,A9.nil _ _ _,A9.nil _ _ _,fun b h=>absurd h D0,fun b h=>absurd h D0,fun b h=>h.elim,fun b h=>h.elim,hx2.size,i4 _⟩⟩
theorem cd3{w w2:World}(hx:o6 w w2):B4 (d7 w) (B8 w2 (nP w.heap.size (.slice none 0 0))):=aF5 hx fun b hb=>by
 rcases hb with h|h|h|h
 ·rw[h];exact ex9 _
 ·exact absurd h D0
 ·exact absurd h D0
 ·exact h.elim
theorem cz8{w w1 w2:World}(hw1:w.heap.size<w1.heap.size){α:Type}[I7 α]{T:TypeId}{u:Value}{l:List α}(ho:A9 (d7 w1) w2 T u l):R (B8 w2 (nP w.heap.size (.slice none 0 0))) u l:=
 ho.flatR fun b hb=>D3 fun h=>by
  have:=C5 (ho.free hb);rcases h with h|h|h|h
  ·omega
  ·exact absurd h D0
  ·exact absurd h D0
  ·exact h.elim
theorem aq4{p:Pg}(hr:F5 p)(hw:D6 p≤1000000){i:Nat}(hi:i<p.procs.length):((z7 p).slotsIn (i:Int)).length≤33:=by
 have h1:=((aF6 hr hw).row hi).2.2;have h2:=N6 hr.may hi;unfold Bk.slotsIn;rw[af8 hi,Q8,ew7,ex7];have e:(z7 p).ins=ab8 p:=rfl;rw[e];omega
theorem ax3{p:Pg}(hr:F5 p){i:Nat}(hi:i<p.procs.length):((z7 p).slotsOut (i:Int)).length≤26:=by
 have h1:=((at3 hr.may).row hi).2.2;have e:(z7 p).slotsOut (i:Int)=U7 (G8 (L7 p) (i:Int)++[O1]):=rfl;rw[e,Q8,ew7,ez4];omega
theorem aX4{p:Pg}(hr:F5 p){s:St}{c:Nat}(hc:aJ4 p s c):((z7 p).callOut s).length≤26:=by
 have h1:=ax3 hr hc.lt;have e:(z7 p).s.pr s.proc=(c:Int):=hc.pr;unfold Bk.callOut;rw[e];split
 ·exact ex3 (ez0 _ _) h1
 ·exact h1
def R7(p:Pg)(q:A6)(it:It):List Vx:=[⟨q,2,it.s.id,e0⟩]++if it.s.kind=4 then(((z7 p).slotsIn ((z7 p).s.pr it.s.proc)).map fun n=>(⟨q,5,it.s.id,n⟩:Vx))++((z7 p).callOut it.s).map fun n=>(⟨q,6,it.s.id,n⟩:Vx)else[]
theorem bb8{p:Pg}(hr:F5 p)(hw:D6 p≤1000000)(q:A6){it:It}(hit:it∈(b9 p).l):(R7 p q it).length≤100:=by
 unfold R7;rw[ew7,ez4];split
 ·rename_i h4;obtain⟨c,hc⟩:=ap5 (hr.fits it hit h4);have e:(z7 p).s.pr it.s.proc=(c:Int):=hc.pr;have h1:=aq4 hr hw hc.lt;have h2:=aX4 hr hc;rw[e,ew7,ex7,ex7];omega
 ·simp
theorem cA7{p:Pg}{i x y:Nat}(pt:aA5 p i x y){it:It}(hit:it∈(b9 p).of i):it∈(b9 p).l:=by
 rw[pt.ok.of_]at hit;exact eG0 (eI3 hit)
theorem aM6(a:Addr)(p:Pg)(i:Nat)(w:World)(ha:At (d7 w) a (z7 p))(hr:F5 p)(hw:D6 p≤1000000)(hi:i<p.procs.length):
  Calls prog 39 #[.pointer (some a),.int .i64 i] w fun e w'=>∃u,e = .returned u∧(A9 (d7 w) w' 36 u ((z7 p).verts (i:Int))∧o6 w w'):=by
 refine d9 (args:=[.pointer (some a),.int .i64 i]) hm func39 rfl (by kernel_rfl) (by show 2≤_;decide +kernel) ?_;obtain⟨il,hil,hil1⟩:=cY0;obtain⟨x,pt⟩:=O9 hr.may hw i hi;have h200:=J4 hr.may;obtain⟨sh,vw,vd,_,vi,vo,has,hvw,hvd,_,hvi,hvo,ldb,sdb⟩:=ha.book rfl;obtain⟨_,_,_,_,_,_,hpg,_,_⟩:=has.sh;rw[I1]at hpg;obtain⟨vg,vp,hvg,hvp,ldp,sdp⟩:=hpg.pg;have lb:=ldb w (i4 _);have lp:=ldp w (i4 _);have hF:(z7 p).vert0 (i:Int)=([⟨p.procs[i].name,1,0,e0⟩]++((z7 p).slotsIn (i:Int)).map fun n=>(⟨p.procs[i].name,3,0,n⟩:Vx))++(((z7 p).slotsOut (i:Int)).map fun n=>(⟨p.procs[i].name,4,0,n⟩:Vx))++((b9 p).of i).flatMap (R7 p p.procs[i].name):=by
  unfold Bk.vert0;rw[af8 hi];rfl
 have hfi:=aq4 hr hw hi;have hfo:=ax3 hr hi;have hVl:∀it∈(b9 p).of i,(R7 p p.procs[i].name it).length≤100:=fun it hit=>bb8 hr hw _ (cA7 pt hit);have hV:∀it,R7 p p.procs[i].name it=[⟨p.procs[i].name,2,it.s.id,e0⟩]++if it.s.kind=4 then(((z7 p).slotsIn ((z7 p).s.pr it.s.proc)).map fun n=>(⟨p.procs[i].name,5,it.s.id,n⟩:Vx))++((z7 p).callOut it.s).map fun n=>(⟨p.procs[i].name,6,it.s.id,n⟩:Vx)else[]:=fun it=>rfl;have hcalls:∀it∈(b9 p).of i,it.s.kind=4→∃c,aJ4 p it.s c:=fun it hit h4=>ap5 (hr.fits it (cA7 pt hit) h4);have hlens:((b9 p).of i).length≤200:=by
  rw[pt.ok.of_,eB8,ex4];omega
 have hin:=hvp.inS hi;obtain⟨sv,hsv,hld⟩:=F4 (P:=prog) (t:=51) hvp (i4 _) (ew4 hi) aj1 aj3 aj2 N0;rw[N0]at hld;obtain⟨cs,rfl,c1,c2,c3,c4,rfl,_⟩:=hsv;generalize p.procs[i].name=q at hF hV hVl hld;have hbp:=bE5 a (i:Int) q c1 c2 c3 c4;have hbx:(Instr.box 116 (.agg (G7 a i q c1 c2 c3 c4 (.slice none 0 0) (.slice none 0 0)))).run prog w = .ok (.pointer (some ⟨w.heap.size,0,none⟩)) (w.alloc (.cells (G7 a i q c1 c2 c3 c4 (.slice none 0 0) (.slice none 0 0)) 116)):=rfl;simp only[m8,n8,v8,simprocAttr,lb,lp,hin,hld,hbp,hbx];have hxa:=o6.alloc w (.cells (G7 a i q c1 c2 c3 c4 (.slice none 0 0) (.slice none 0 0)) 116);have hsz1:w.heap.size<(w.alloc (.cells (G7 a i q c1 c2 c3 c4 (.slice none 0 0) (.slice none 0 0)) 116)).heap.size:=by simp
 generalize hw1:w.alloc (.cells (G7 a i q c1 c2 c3 c4 (.slice none 0 0) (.slice none 0 0)) 116)=w1 at hxa hsz1;refine z6 cx6 (aE4 a p i w1 (ha.mono (b7 hxa)) hr hw hi) ?_;rintro _ w2 ⟨ui,uo,rfl,hoi,hoo,hdj,hx2⟩;have hx02:=hxa.trans hx2;rw[←hw1]at hx2;have s2:=(PV.new a i q c1 c2 c3 c4 hx2).1;have hui:=cz8 hsz1 hoi;have huo:=cz8 hsz1 hoo;have hbase:=cd3 hx02;generalize hgb:w.heap.size=gb at s2 hui huo hbase;generalize hH0:B8 w2 (nP gb (.slice none 0 0))=H0 at s2 hui huo hbase;have s3:=s2.more (o6.drew w2);have hcb:∀w',o9 (fun _=>False) w2.drew w'→w'.heap[gb]?=some (.cells (G7 a i q c1 c2 c3 c4 (.slice none 0 0) (.slice none 0 0)) 116 (0,0)):=fun w' hm=>(hm.block gb (ex0.1 s3.cb).1 id).trans s3.cb;have k7:∀K f d w0',B6 prog (fun w'=>o9 (fun _=>False) w2.drew w') (Instr.loadAt 30 (.pointer (some ⟨gb,7,none⟩))) K f d w0'=K (A7 f d (.slice none 0 0)) w0':=fun K f d w0'=>A0 (w0:=w2.drew) (o9.refl _) fun w' h=>F0 (i:=7) (u:=.slice none 0 0) (hcb w' h) rfl bv5;simp only[m8,simprocAttr];refine C2 (fun w'=>o9 (fun _=>False) w2.drew w') 9 (B0 [0,1,2,3,4,5,6,7,8]) (by decide +kernel) (o9.refl _) ?_;have hse:Value.string {data:=#[]}=o7 e0:=rfl;simp only[D5,B0,m8,n8,simprocAttr,k7,hse];refine z6 aj0 (H7 gb _ _ q 1 0 e0 w2.drew s3.cb rfl) ?_;rintro _ w3 ⟨rfl,hx3⟩;refine⟨hx3,?_⟩;have s4:=s3.more hx3;obtain⟨p1,v5,w4,w5,p2,p3,s5,p4⟩:=s4.push (P:=prog) (e:=30) bL9 rfl (x:=.agg (t8.cells (⟨q,1,0,e0⟩:Vx)).toArray) (y:=⟨q,1,0,e0⟩) ((t8.iff_ _ _ _).2 rfl) (by simp) (by simp) (ix:=7) (by simp[G7]) (fun v v'=>by simp[G7]) hil hil1;have p4':o9 (fun _=>False) w3 w4:=p4.weaken fun b _ hb=>D0 hb;simp only[D5,m8,n8,simprocAttr,p1,p2,F6];refine⟨hx3.trans (o6.alloc _ _),hx3.trans p4',?_⟩;simp only[m8,simprocAttr,p3];simp only[eG1]at s5;have hui5:=A3.mono s5.base hui;refine z6 cx7 (aG1 H0 gb a i q c1 c2 c3 c4 v5 _ 3 0 ui _ w w5 s5 hui5 (by rw[ez4];omega)) ?_;rintro r6 w6 ⟨v6,s6⟩;have s6:=s6.rebase (p6 s5.base s6.base);have huo6:=A3.mono s6.base huo;simp only[m8,simprocAttr];refine z6 cx7 (aG1 H0 gb a i q c1 c2 c3 c4 v6 _ 4 0 uo _ w w6 s6 huo6 (by rw[ew7,ez4,ex7];omega)) ?_;rintro r7 w7 ⟨v7,s7⟩;have s7:=s7.rebase (p6 s6.base s7.base);have hb7:B4 (d7 w) (d7 w7):=p6 hbase s7.hb;have lb7:=ldb w7 hb7;simp only[m8,n8,simprocAttr,lb7];refine z6 aZ1 (aD6 (d7 w) sh (b9 p) i x _ w7 has hb7 pt.ok) ?_;rintro ul w8 ⟨hul,hx8⟩;have s8:=s7.more hx8;have hprel:(([(⟨q,1,0,e0⟩:Vx)]++((z7 p).slotsIn (i:Int)).map fun n=>(⟨q,3,0,n⟩:Vx))++(((z7 p).slotsOut (i:Int)).map fun n=>(⟨q,4,0,n⟩:Vx))).length≤60:=by
  rw[ew7,ew7,ez4,ex7,ex7];omega
 generalize(([(⟨q,1,0,e0⟩:Vx)]++((z7 p).slotsIn (i:Int)).map fun n=>(⟨q,3,0,n⟩:Vx))++(((z7 p).slotsOut (i:Int)).map fun n=>(⟨q,4,0,n⟩:Vx)))=pre at s8 hF hprel;generalize(b9 p).of i=L at hul hF hVl hcalls hlens;have hSl:=hul.isS;have hnl:=hul.vlen;clear s2 s3 s4 s5 s6 s7 hcb k7;simp only[m8,n8,simprocAttr,hSl,hnl];refine n7 [0,1,5,53,54] (σ:=Nat×Value) (fun t f w'=>f 55 = .int .i64 t.1∧t.1≤L.length∧PV H0 w w' gb a i q c1 c2 c3 c4 t.2 (pre++(L.take t.1).flatMap (R7 p q))) (fun t=>L.length-t.1) (0,v7) (by decide +kernel) ?_ ?_
 ·simp only[p7,simprocAttr];exact⟨by trivial,ex6 _,by simpa using s8⟩
 clear s8;rintro⟨k,v⟩ f w9 hk ⟨h55,hkl,s9⟩;simp only at h55 hkl s9;simp only[ew6,p7,simprocAttr]at hk;obtain⟨e0',e1,e5,e53,e54,_⟩:=hk;have hpl:(pre++(L.take k).flatMap (R7 p q)).length≤30000:=by
  rw[ew7];have h1:=Q7 (R7 p q) 100 (L.take k) fun z hz=>hVl z (eG0 hz);rw[ex4]at h1;have h2:min k L.length≤200:=by omega
  omega
 have hb9:B4 (d7 w) (d7 w9):=p6 hbase s9.hb;simp only[m8,n8,simprocAttr,h55,e54];refine i5 (fun hc=>?_) (fun hc=>?_);rotate_left
 ·have hge:k=L.length:=by simp at hc;omega
  subst hge;rw[ex5]at s9 hpl;have l7:(Instr.loadAt 30 (.pointer (some ⟨gb,7,none⟩))).run prog w9 = .ok v w9:=F0 (i:=7) (u:=v) s9.cb rfl bv5;simp only[m8,n8,simprocAttr,e5,l7];refine z6 es9 (bV8 s9.ox (by omega) fun a _ b _ h1 h2=>aE1 (bE7.eq0 h1 h2)) ?_;rintro _ w10 ⟨ho10,hm10⟩;have l7':(Instr.loadAt 30 (.pointer (some ⟨gb,7,none⟩))).run prog w10 = .ok v w10:=F0 (i:=7) (u:=v) ((hm10.block gb (ex0.1 s9.cb).1 fun h=>(s9.dx gb h).2.1 rfl).trans s9.cb) rfl bv5;simp only[m8,n8,simprocAttr,e5,l7'];refine n9 results39 ?_;simp only[p7,simprocAttr];refine⟨?_,o9.ext_of s9.ext hm10 fun b hb=>(s9.dx b hb).1⟩;have e:(z7 p).verts (i:Int)=T6 cW0 (pre++L.flatMap (R7 p q)):=by unfold Bk.verts;rw[hF]
  rw[e];exact ho10.downN (p6 hbase s9.base)
 have hlt:k<L.length:=by simpa using hc
 have htk:=J0 (R7 p q) L hlt;have hmem:=ex8 hlt;clear hin hld;have hin:=hul.inS hlt;obtain⟨sv,hsv,hld⟩:=F4 (P:=prog) (t:=121) hul (hb9) (ew4 hlt) X7 X9 X8 I6;rw[I6]at hld;have hVe:=hV L[k];have hcl:=hcalls _ hmem;generalize L[k]=it at hsv htk hVe hcl;generalize hys:pre++(L.take k).flatMap (R7 p q)=ys at s9 hpl;obtain⟨d,wz,w10,hal,hst,hx10,hati⟩:=aG9 (w:=w9) (nP gb v) hsv fun b hb=>s9.lt hb;have s10:=s9.more hx10;have b10:=s10.base;have s10:=s10.rebase (i4 _);generalize hK:B8 w10 (nP gb v)=K at s10 b10 hati;obtain⟨us,hus,hats,_,_⟩:=I4.it hsv hati;obtain⟨_,_,_,_,_,_,_,_,_,_,_,lds,sds⟩:=I4.st hus hats;have ldv:=(I4.st_v hus hats).1;have s11:=s10.more (o6.drew w10);have hcb11:∀w',o9 (A4 v) w10.drew w'→w'.heap[gb]?=some (.cells (G7 a i q c1 c2 c3 c4 v (.slice none 0 0)) 116 (0,0)):=fun w' hm=>(hm.block gb (ex0.1 s11.cb).1 fun h=>(s11.dx gb h).2.1 rfl).trans s11.cb;have k7:∀K f d w0',B6 prog (fun w'=>o9 (A4 v) w10.drew w') (Instr.loadAt 30 (.pointer (some ⟨gb,7,none⟩))) K f d w0'=K (A7 f d v) w0':=fun K f d w0'=>A0 (w0:=w10.drew) (o9.refl _) fun w' h=>F0 (i:=7) (u:=v) (hcb11 w' h) rfl bv5;have t1:=sds (fun w'=>o9 (A4 v) w10.drew w') w10.drew (o9.refl _) fun w' h=>p6 s11.base (p6 (G6 h (fun b hb=>.inr (.inl hb)) fun b hb=>.inl hb) (B3 _ _));simp only[m8,n8,v8,simprocAttr,h55,e53,hin,hld,hal,hst];refine C2 (fun w'=>o9 (A4 v) w10.drew w') 12 (B0 [0,1,2,3,4,5,6,7,8,9,10,11]) (by decide +kernel) (o9.refl _) ?_;simp only[D5,B0,m8,n8,simprocAttr,e5,k7,t1];refine z6 aj0 (H7 gb _ _ q 2 it.s.id e0 w10.drew s11.cb rfl) ?_;rintro _ w12 ⟨rfl,hx12⟩;refine⟨o9.up hx12,?_⟩;have s12:=s11.more hx12;obtain⟨p1,v',w13,w14,p2,p3,s14,p4⟩:=s12.push (P:=prog) (e:=30) bL9 rfl (x:=.agg (t8.cells (⟨q,2,it.s.id,e0⟩:Vx)).toArray) (y:=⟨q,2,it.s.id,e0⟩) ((t8.iff_ _ _ _).2 rfl) (by omega) (by omega) (ix:=7) (by simp[G7]) (fun v v'=>by simp[G7]) hil hil1;simp only[D5,m8,n8,simprocAttr,p1,p2,F6];refine⟨(o9.up hx12).trans (o9.up (o6.alloc _ _)),(o9.up hx12).trans p4,?_⟩;have l14:=lds w14 s14.hb;have hb14:B4 (d7 w) (d7 w14):=p6 hbase (p6 b10 s14.hb);have hyl:(ys++[(⟨q,2,it.s.id,e0⟩:Vx)]).length≤30001:=by rw[ew7,ez4];omega
 clear s9 s10 s11 s12 k7 hcb11 t1;rcases ew5 (decide (it.s.kind=4))with h4|h4
 ·have e4:=ew8 h4;obtain⟨c,hc4⟩:=hcl e4;have epr:(z7 p).s.pr it.s.proc=(c:Int):=hc4.pr;have hf1:=aq4 hr hw hc4.lt;have hf2:=aX4 hr hc4;rw[if_pos e4,epr]at hVe;have lv14:=ldv w14 s14.hb;simp only[m8,n8,simprocAttr,e5,p3,l14,h4,lv14];refine z6 es8 (co1 gb _ _ a p us it.s c w14 s14.cb rfl (ha.mono hb14) hr hw (hus.mono hb14) hc4) ?_;rintro _ w15 ⟨ui2,uo2,rfl,hoi2,hoo2,hdj2,hx15⟩;have s15:=s14.more hx15;have hui2:=s14.fresh hoi2;have huo2:=s14.fresh hoo2;have l15:=lds w15 s15.hb;generalize(z7 p).slotsIn (c:Int)=Si at hVe hf1 hui2;generalize(z7 p).callOut it.s=So at hVe hf2 huo2;simp only[m8,n8,simprocAttr,e5,l15];refine z6 cx7 (aG1 K gb a i q c1 c2 c3 c4 v' _ 5 it.s.id ui2 Si w w15 s15 hui2 (by omega)) ?_;rintro _ w16 ⟨v16,s16⟩;have huo16:=A3.mono s16.base huo2;have b16:=p6 s15.base s16.base;have l16:=lds w16 (p6 b16 (B3 _ _));simp only[m8,n8,simprocAttr,e5,l16];refine z6 cx7 (aG1 _ gb a i q c1 c2 c3 c4 v16 _ 6 it.s.id uo2 So w w16 s16 huo16 (by rw[ew7,ex7];omega)) ?_;rintro _ w17 ⟨v17,s17⟩;have hlist:pre++(L.take (k+1)).flatMap (R7 p q)=ys++[(⟨q,2,it.s.id,Go.Proofs.YtcbnbgpphippoaaGreat.e0⟩:Vx)]++(Si.map fun n=>(⟨q,5,it.s.id,n⟩:Vx))++So.map fun n=>(⟨q,6,it.s.id,n⟩:Vx):=by
   rw[htk,hVe,←hys];simp only[ey6]
  simp only[m8,n8,simprocAttr,h55];refine⟨(k+1,v17),by simp only[];omega,by simp only[];rw[B2 k (by omega)],by simp only[];omega,?_⟩;simp only[];rw[hlist];exact s17.rebase (p6 b10 (p6 b16 s17.base))
 ·have e4:=ew9 h4;rw[if_neg e4,ez3]at hVe;have hlist:pre++(L.take (k+1)).flatMap (R7 p q)=ys++[(⟨q,2,it.s.id,Go.Proofs.YtcbnbgpphippoaaGreat.e0⟩:Vx)]:=by
   rw[htk,hVe,←hys];simp only[ey6]
  simp only[m8,n8,simprocAttr,p3,l14,h4,h55];refine⟨(k+1,v'),by simp only[];omega,by simp only[];rw[B2 k (by omega)],by simp only[];omega,?_⟩;simp only[];rw[hlist];exact s14.rebase (p6 b10 s14.base)
theorem bV9(vs:Value)(ag:Ar)(w:World)(hv:SV (d7 w) vs ag)(hl:R0 ag.x≤1000000):
  Calls prog 109 #[vs] w fun e w'=>∃u,e = .returned u∧(A9 (d7 w) w' 9 u (T7 ag)∧o6 w w'):=by
 refine d9 (args:=[vs]) hm func109 rfl (by kernel_rfl) (by show 1≤_;decide +kernel) ?_;obtain⟨d,w1,hb1,hx1,hat⟩:=cL0 hv (i4 _);obtain⟨hatx,ldg,_⟩:=hat.ar;obtain⟨sx,hsx,ldx,_⟩:=hatx.ex_v;have l1:=ldg w1 (i4 _);have lx1:=ldx w1 (i4 _);unfold T7;cases hr:ag.ref
 ·rw[hr]at l1;simp only[m8,n8,simprocAttr,hb1,l1,lx1];refine z6 bz1 (am2 sx ag.x w1 hsx hl) ?_;rintro u w2 ⟨ho,hx2⟩;simp only[m8,simprocAttr];refine n9 results109 ?_;simp only[p7,simprocAttr];exact⟨ho.back hx1,hx1.trans hx2⟩
 ·rw[hr]at l1;obtain⟨u,w2,q1,q2,q3,_⟩:=cc5 ag.name w1 (b7 hx1);simp only[m8,n8,simprocAttr,hb1,l1,q1];refine n9 results109 ?_;simp only[p7,simprocAttr];exact⟨q2,hx1.trans q3⟩
theorem dJ4(w:World):∃w0,(Instr.alloc 36 true (.tuple #[])).run prog w = .ok (.pointer (some ⟨w.heap.size,0,none⟩)) w0∧o6 w w0∧∀(w':World) (y:Vx),o6 w0 w' →
  ∃w'',(Instr.storeAt 36 (.pointer (some ⟨w.heap.size,0,none⟩)) (.agg (t8.cells y).toArray)).run prog w' = .ok () w''∧(Instr.loadAt 36 (.pointer (some ⟨w.heap.size,0,none⟩))).run prog w'' = .ok (.agg (t8.cells y).toArray) w''∧o6 w w'':=by
 obtain⟨z,hz,hzs⟩:∃z,G2 prog 36=some z∧z.cells.size=E5 prog 36:=⟨_,bv7,by rw[Y6];rfl⟩;have hcs:∀y:Vx,(t8.cells y).toArray.size=E5 prog 36:=fun y=>by rw[Y6];rfl
 have h1:=(aH8 (P:=prog) (w:=w) (T:=36) hz hzs (cs:=(t8.cells (⟨e0,0,0,e0⟩:Vx)).toArray) (hcs _) (fun u hu=>S4 _ u (by simpa using hu))).1;refine⟨_,h1,o6.alloc _ _,fun w' y hx=>?_⟩;have hb:w'.heap[w.heap.size]?=some (.cells z.cells 36 (0,0)):=(hx.block _ (by simp) id).trans (eA5 w _);obtain⟨w'',e1,e2,e3⟩:=ab3 (P:=prog) (T:=36) hb hz hzs (hcs y) (fun u hu=>S4 y u (by simpa using hu));exact⟨w'',e1,R2 e2 aI8 aJ0 az5 (hcs y).symm,o9.ext_of ((o6.alloc _ _).trans hx) e3 fun b hb=>by rw[hb];exact ex9 _⟩
theorem bq7{p:Pg}{s:St}{c:Nat}(hc:aJ4 p s c):(z7 p).callee s=p.procs[c]'hc.lt:=by
 have e:(z7 p).s.pr s.proc=(c:Int):=hc.pr;unfold Bk.callee;rw[e,af8 hc.lt]
theorem ck8(gb:Nat)(T:TypeId)(cs0:Array Value)(a:Addr)(p:Pg)(q:A6)(pl:Int)(n:A6)(w:World)(hb:w.heap[gb]?=some (.cells cs0 T (0,0)))(hc0:cs0[0]?=some (.pointer (some a)))(hcq:cs0[2]?=some (o7 q))(ha:At (d7 w) a (z7 p))(hr:F5 p)(hw:D6 p≤1000000)
  (hpl:pl=0∨∃j:Nat,pl=(j:Int)+1∧j<(b9 p).l.length) :
  Calls prog 63 #[.pointer (some ⟨gb,0,none⟩),.int .i64 pl,o7 n] w fun e w'=>∃u,e = .returned u∧(u = .agg (t8.cells ((z7 p).giver q pl n)).toArray∧o6 w w'):=by
 refine d9 (args:=[.pointer (some ⟨gb,0,none⟩),.int .i64 pl,o7 n]) hm func63 rfl (by kernel_rfl) (by show 3≤_;decide +kernel) ?_;obtain⟨w0,hal,hx0,hend⟩:=dJ4 w;have hblk:∀w',o6 w w'→w'.heap[gb]?=some (.cells cs0 T (0,0)):=fun w' hx=>(hx.block gb (ex0.1 hb).1 id).trans hb;have hse:Value.string {data:=#[]}=o7 e0:=rfl;have hsg:Value.string {data:=#[36,114,101,116]}=o7 O1:=rfl;rcases ew5 (decide (pl=0))with h0|h0
 ·have e0':=ew8 h0;simp only[m8,n8,simprocAttr,hal,h0];refine B7 aj0 (H7 gb T cs0 q 3 0 n w0 (hblk w0 hx0) hcq) (fun w1 hx1=>?_);obtain⟨w2,q1,q2,hx2⟩:=hend w1 ⟨q,3,0,n⟩ hx1;simp only[m8,simprocAttr,q1];refine L0 results63 (ad:=⟨w.heap.size,0,none⟩) (by simp only[p7,simprocAttr]) q2 ?_;refine⟨?_,hx2⟩;unfold Bk.giver;rw[if_pos e0']
 have hne:=ew9 h0;obtain⟨j,rfl,hjl⟩:∃j:Nat,pl=(j:Int)+1∧j<(b9 p).l.length:=by
  rcases hpl with h|h
  ·exact absurd h hne
  ·exact h
 have h200:=J4 hr.may;obtain⟨sh,vw,vd,_,vi,vo,has,hvw,hvd,_,hvi,hvo,ldb,sdb⟩:=ha.book rfl;obtain⟨vl,_,_,hvl,_,_,hpg,lds,_⟩:=has.sh;rw[I1]at hpg;obtain⟨vg,vp,hvg,hvp,ldp,sdp⟩:=hpg.pg;have hle0:=b7 hx0;have lb0:=ldb w0 hle0;have ls0:=lds w0 hle0;have k0:(Instr.loadAt 78 (.pointer (some ⟨gb,0,none⟩))).run prog w0 = .ok (.pointer (some a)) w0:=F0 (i:=0) (hblk w0 hx0) hc0 bb3;have hwj:IntKind.i64.wrap ((j:Int)+1-1)=(j:Int):=by rw[K1 _ (by omega)];omega
 have hinl:=hvl.inS (k:=j) hjl;have hatl:=hvl.at_ (i:=j) (x:=(b9 p).l[j]) (ew4 hjl);have hz17:A3.sz It=17:=rfl;rw[hz17]at hatl;have hmem:=ex8 hjl;have hfits:=hr.fits _ hmem;have hite:(b9 p).it ((j:Int)+1)=(b9 p).l[j]:=by
  unfold Sh.it;rw[show((j:Int)+1-1).toNat=j by omega,List.getD,ew4 hjl];rfl
 have hGv:(z7 p).giver q ((j:Int)+1) n=if((b9 p).l[j]).s.kind≠4 then⟨q,2,(j:Int)+1,e0⟩else if((b9 p).l[j]).s.name=n then⟨q,6,(j:Int)+1,O1⟩
   else match(((b9 p).l[j]).s.args.zip ((z7 p).callee ((b9 p).l[j]).s).params).find? fun x=>x.1.ref&&decide (x.1.name=n)with
    | some x=>⟨q,6,(j:Int)+1,x.2.name⟩
    | none=>⟨q,6,(j:Int)+1,n⟩:=by
  have hs:(z7 p).s=b9 p:=rfl;unfold Bk.giver;rw[if_neg hne,hs,hite];rfl
 generalize(b9 p).l[j]=it at hatl hfits hGv;obtain⟨hats,_,_⟩:=hatl.it;obtain⟨sv,hsv,ldv,_⟩:=hats.st_v;have lv0:=ldv w0 hle0;obtain⟨d,wz,w1,hal1,hst1,hx1,hat⟩:=aS1 (hsv.mono hle0) (i4 _);obtain⟨_,va,_,_,_,hva,_,_,_,ldd,_⟩:=hat.st;obtain⟨sv2,hsv2,_,sdv2⟩:=hat.st_v;have l1:=ldd w1 (i4 _);have hx01:=hx0.trans hx1;rcases ew5 (decide (it.s.kind=4))with h4|h4;rotate_left
 ·have e4:=ew9 h4;simp only[m8,n8,v8,simprocAttr,hal,h0,k0,lb0,ls0,hwj,hinl,lv0,hal1,hst1,l1,h4,hse];refine B7 aj0 (H7 gb T cs0 q 2 ((j:Int)+1) e0 w1 (hblk w1 hx01) hcq) (fun w2 hx2=>?_);obtain⟨w3,q1,q2,hx3⟩:=hend w2 ⟨q,2,(j:Int)+1,e0⟩ (hx1.trans hx2);simp only[m8,simprocAttr,q1];refine L0 results63 (ad:=⟨w.heap.size,0,none⟩) (by simp only[p7,simprocAttr]) q2 ?_;refine⟨?_,hx3⟩;rw[hGv,if_pos e4]
 have e4:=ew8 h4;rw[if_neg (by simpa using e4)]at hGv;rcases ew5 (decide (it.s.name=n))with h5|h5
 ·have e5:=ew8 h5;simp only[m8,n8,v8,simprocAttr,hal,h0,k0,lb0,ls0,hwj,hinl,lv0,hal1,hst1,l1,h4,h5,hsg];refine B7 aj0 (H7 gb T cs0 q 6 ((j:Int)+1) O1 w1 (hblk w1 hx01) hcq) (fun w2 hx2=>?_);obtain⟨w3,q1,q2,hx3⟩:=hend w2 ⟨q,6,(j:Int)+1,O1⟩ (hx1.trans hx2);simp only[m8,simprocAttr,q1];refine L0 results63 (ad:=⟨w.heap.size,0,none⟩) (by simp only[p7,simprocAttr]) q2 ?_;refine⟨?_,hx3⟩;rw[hGv,if_pos e5]
 have e5:=ew9 h5;obtain⟨c,hc⟩:=ap5 (hfits e4);rw[if_neg e5,bq7 hc]at hGv;have hlen:=hc.len;have hpl8:=N6 hr.may hc.lt;have hatp:=hvp.at_ (i:=c) (x:=p.procs[c]'hc.lt) (ew4 hc.lt);have hinp:=hvp.inS (k:=c) hc.lt;have hz5:A3.sz Pr=5:=rfl;rw[hz5]at hatp;obtain⟨vpa,_,_,_,hvpa,_,_,_,_,sdr⟩:=hatp.pr;have hkp:=hc.pr;generalize(p.procs[c]'hc.lt).params=pas at hGv hlen hpl8 hvpa;have hSa:=hva.isS;have hna:=hva.vlen;simp only[m8,n8,v8,simprocAttr,hal,h0,k0,lb0,ls0,hwj,hinl,lv0,hal1,hst1,l1,h4,h5,hSa,hna];refine n7 [0,1,2,6,7,44,45] (σ:=Nat) (fun k f w'=>f 46 = .int .i64 k∧k≤it.s.args.length∧(∀m (hm:m<it.s.args.length),m<k→(it.s.args[m].ref&&decide (it.s.args[m].name=n))=false)∧o6 w1 w') (fun k=>it.s.args.length-k) 0 (by decide +kernel) ?_ ?_
 ·simp only[p7,simprocAttr];exact⟨by trivial,ex6 _,fun m _ h=>by omega,o9.refl _⟩
 rintro k f w2 hk ⟨h46,hkl,hno,hx2⟩;simp only[ew6,p7,simprocAttr]at hk;obtain⟨g0,g1,g2,g6,g7,g44,g45,_⟩:=hk;simp only[m8,n8,simprocAttr,h46,g45];refine i5 (fun hc2=>?_) (fun hc2=>?_);rotate_left
 ·have hge:k=it.s.args.length:=by simp at hc2;omega
  subst hge;simp only[m8,simprocAttr,g0,g1,g2];refine B7 aj0 (H7 gb T cs0 q 6 ((j:Int)+1) n w2 (hblk w2 (hx01.trans hx2)) hcq) (fun w3 hx3=>?_);obtain⟨w4,q1,q2,hx4⟩:=hend w3 ⟨q,6,(j:Int)+1,n⟩ (hx1.trans (hx2.trans hx3));simp only[m8,simprocAttr,g6,q1];refine L0 results63 (ad:=⟨w.heap.size,0,none⟩) (by simp only[p7,simprocAttr];exact g6) q2 ?_;refine⟨?_,hx4⟩;rw[hGv,eF0.2 fun z hz=>?_];obtain⟨m,hm⟩:=eI0.1 hz;rw[List.getElem?_zip_eq_some]at hm;obtain⟨hml,hme⟩:=ex1.1 hm.1;have:=hno m hml hml;rw[hme]at this;simp[this]
 have hlt:k<it.s.args.length:=by simpa using hc2
 have hin:=hva.inS hlt;obtain⟨sv,hsv,hld⟩:=F4 (P:=prog) (t:=101) hva (b7 hx2) (ew4 hlt) ax8 ay0 ax9 T2;rw[T2]at hld;have hnok:=hno;have hargk:∀(b:Bool),(it.s.args[k].ref&&decide (it.s.args[k].name=n))=b→(b=false→∀m (hm:m<it.s.args.length),m<k+1→(it.s.args[m].ref&&decide (it.s.args[m].name=n))=false):=fun b hb hbf m hm hmk=>by
  rcases eA1 m k with h|h
  ·exact hno m hm h
  ·obtain rfl:m=k:=by omega
   rw[hb,hbf]
 have hltp:k<pas.length:=by omega
 have hfind:(it.s.args[k].ref&&decide (it.s.args[k].name=n))=true→(it.s.args.zip pas).find? (fun x=>x.1.ref&&decide (x.1.name=n))=some (it.s.args[k],pas[k]):=fun ht=>by
  rw[eE7];refine⟨ht,k,by rw[List.length_zip];omega,by rw[List.getElem_zip],fun m hm=>?_⟩;rw[List.getElem_zip];have:=hno m (by omega) hm;simp only[this];rfl
 have hatpa:=hvpa.at_ (i:=k) (x:=pas[k]) (ew4 hltp);have hinpa:=hvpa.inS (k:=k) hltp;have hz2:A3.sz Pa=2:=rfl;rw[hz2]at hatpa;obtain⟨_,sdpa⟩:=hatpa.pa;generalize pas[k]=pa at hfind sdpa;generalize it.s.args[k]=ag at hsv hargk hfind;obtain⟨d3,wz3,w3,hal3,hst3,hx3,hat3⟩:=aS0 (hsv.mono (b7 hx2)) (i4 _);obtain⟨_,ldg,_⟩:=hat3.ar;have l3:=ldg w3 (i4 _);have hx13:=hx2.trans hx3;cases hrf:ag.ref
 ·rw[hrf]at l3;simp only[m8,n8,v8,simprocAttr,h46,g44,hin,hld,hal3,hst3,l3];exact⟨k+1,by omega,by rw[B2 k (by omega)],by omega,hargk false (by rw[hrf];rfl) rfl,hx13⟩
 rw[hrf]at l3;rcases ew5 (decide (ag.name=n))with h6|h6;rotate_left
 ·simp only[m8,n8,v8,simprocAttr,h46,g2,g44,hin,hld,hal3,hst3,l3,h6];exact⟨k+1,by omega,by rw[B2 k (by omega)],by omega,hargk false (by rw[hrf,h6];rfl) rfl,hx13⟩
 have hx03:=hx01.trans hx13;have hx03d:=hx03.trans (o6.drew w3);have hh3:∀w',o6 w3.drew w'→B4 (d7 w) (d7 w'):=fun w' h=>b7 (hx03d.trans h);have t0:∀K f d w0',B6 prog (fun w'=>o6 w3.drew w') (Instr.loadAt 78 (.pointer (some ⟨gb,0,none⟩))) K f d w0'=K (A7 f d (.pointer (some a))) w0':=fun K f d w0'=>A0 (w0:=w3.drew) (o9.refl _) fun w' h=>F0 (i:=0) (hblk w' (hx03d.trans h)) hc0 bb3;have t1:=sdb (fun w'=>o6 w3.drew w') w3.drew (o9.refl _) hh3;have t2:=sdp (fun w'=>o6 w3.drew w') w3.drew (o9.refl _) hh3;have t3:=sdr (fun w'=>o6 w3.drew w') w3.drew (o9.refl _) hh3;have t4:=sdpa (fun w'=>o6 w3.drew w') w3.drew (o9.refl _) hh3;have t5:=sdv2 (fun w'=>o6 w3.drew w') w3.drew (o9.refl _) fun w' h=>b7 ((hx13.trans (o6.drew w3)).trans h);simp only[m8,n8,v8,simprocAttr,h46,g2,g44,hin,hld,hal3,hst3,l3,h6];refine C2 (fun w'=>o6 w3.drew w') 26 (B0 [0,1,2,3,4,5,6,7,8,9,10,11,12,13,14,15,16,17,22,18,19,20,21,23,24,25]) (by decide +kernel) (o9.refl _) ?_;simp only[D5,B0,m8,n8,simprocAttr,g0,g1,g7,t0,t1,t2,t5];refine B7 bz0 (am1 a (z7 p) p sv2 it.s w3.drew (ha.mono (b7 hx03d)) rfl hr.may (hsv2.mono (b7 (hx13.trans (o6.drew w3))))) (fun w4 hx4=>⟨hx4,?_⟩);rw[hkp];have hx04:=hx03d.trans hx4;simp only[D5,m8,n8,v8,simprocAttr,t3,t4,hinp,hinpa];refine B7 aj0 (H7 gb T cs0 q 6 ((j:Int)+1) pa.name w4 (hblk w4 hx04) hcq) (fun w5 hx5=>?_);obtain⟨w6,q1,q2,hx6⟩:=hend w5 ⟨q,6,(j:Int)+1,pa.name⟩ (hx1.trans (((hx13.trans (o6.drew w3)).trans hx4).trans hx5));simp only[m8,simprocAttr,g6,q1];refine L0 results63 (ad:=⟨w.heap.size,0,none⟩) (by simp only[p7,simprocAttr];exact g6) q2 ?_;refine⟨?_,hx6⟩;rw[hGv,hfind (by rw[hrf,h6];rfl)]
theorem ee5:ag0 prog 109=true:=by kernel_rfl
theorem cY4(y:Vx)(w:World){h:Hp}(hw:B4 h (d7 w)):∃v w',(Instr.buildSlice 30 1 #[(0,.agg (t8.cells y).toArray)]).run prog w = .ok v w'∧A9 h w' 36 v [y]∧o6 w w'∧(∀b,A4 v b→w.heap.size≤b):=
 lit (P:=prog) (w:=w) (h:=h) (α:=Vx) (xs:=[.agg (t8.cells y).toArray]) (ys:=[y]) (parts:=#[(0,.agg (t8.cells y).toArray)]) (n:=1) bL9 rfl (U0.2 rfl) (fun x hx=>by rw[ez7.1 hx];rfl) rfl rfl (by simp) (by simp) hw
theorem cB6{h:Hp}{w:World}{v:Value}{l:List Vx}(ho:A9 h w 36 v l)(y:Vx)(hl:l.length≤1000000)(hw:B4 h (d7 w)){e:TypeId}:
  (Instr.buildSlice 30 1 #[(0,.agg (t8.cells y).toArray)]).run prog w = .ok (.slice (some ⟨w.heap.size,0,none⟩) 1 1) (w.alloc (.cells (t8.cells y).toArray 36)) ∧
  ∃v' w',(Builtin.append_ #[30,30] e #[v,.slice (some ⟨w.heap.size,0,none⟩) 1 1]).run prog (w.alloc (.cells (t8.cells y).toArray 36)) = .ok v' w'∧A9 h w' 36 v' (l++[y])∧o9 (A4 v) w w'∧E0 w v v':=by
 have:=push (P:=prog) (e:=e) bL9 rfl ho (x:=.agg (t8.cells y).toArray) (y:=y) ((t8.iff_ _ _ _).2 rfl) (by omega) (by omega) hw;exact this
theorem cW4(s:St):∀ag∈s.args,R0 ag.x≤O0 s:=by
 cases s;intro ag h;have:=aH1 h;unfold ai3 at this;simp only[St.args]at this;simp only[O0];omega
theorem bW2(gb:Nat)(T:TypeId)(cs0:Array Value)(a:Addr)(p:Pg)(q:A6)(pl:Int)(n:A6)(w:World)(hb:w.heap[gb]?=some (.cells cs0 T (0,0)))(hc0:cs0[0]?=some (.pointer (some a)))(hcq:cs0[2]?=some (o7 q))(ha:At (d7 w) a (z7 p))(hr:F5 p)(hw:D6 p≤1000000)
  (hpl:pl = -1∨∃j:Nat,pl=(j:Int)+1∧j<(b9 p).l.length) :
  Calls prog 64 #[.pointer (some ⟨gb,0,none⟩),.int .i64 pl,o7 n] w fun e w'=>∃u,e = .returned u∧(A9 (d7 w) w' 36 u ((z7 p).takers q pl n)∧o6 w w'):=by
 refine d9 (args:=[.pointer (some ⟨gb,0,none⟩),.int .i64 pl,o7 n]) hm func64 rfl (by kernel_rfl) (by show 3≤_;decide +kernel) ?_;have hblk:∀w',o6 w w'→w'.heap[gb]?=some (.cells cs0 T (0,0)):=fun w' hx=>(hx.block gb (ex0.1 hb).1 id).trans hb;have hse:Value.string {data:=#[]}=o7 e0:=rfl;rcases ew5 (decide (pl = -1))with h0|h0
 ·have e0':=ew8 h0;simp only[m8,n8,simprocAttr,h0];refine B7 aj0 (H7 gb T cs0 q 4 0 n w hb hcq) (fun w1 hx1=>?_);obtain⟨u,w2,q1,q2,q3,_⟩:=cY4 ⟨q,4,0,n⟩ w1 (b7 hx1);simp only[m8,simprocAttr,q1];refine n9 results64 ?_;simp only[p7,simprocAttr];refine⟨?_,hx1.trans q3⟩;unfold Bk.takers;rw[if_pos e0'];exact q2
 have hne:=ew9 h0;obtain⟨j,rfl,hjl⟩:∃j:Nat,pl=(j:Int)+1∧j<(b9 p).l.length:=by
  rcases hpl with h|h
  ·exact absurd h hne
  ·exact h
 have h200:=J4 hr.may;obtain⟨sh,vw,vd,_,vi,vo,has,hvw,hvd,_,hvi,hvo,ldb,sdb⟩:=ha.book rfl;obtain⟨vl,_,_,hvl,_,_,hpg,lds,_⟩:=has.sh;rw[I1]at hpg;obtain⟨vg,vp,hvg,hvp,ldp,sdp⟩:=hpg.pg;have lb0:=ldb w (i4 _);have ls0:=lds w (i4 _);have k0:(Instr.loadAt 78 (.pointer (some ⟨gb,0,none⟩))).run prog w = .ok (.pointer (some a)) w:=F0 (i:=0) hb hc0 bb3;have hwj:IntKind.i64.wrap ((j:Int)+1-1)=(j:Int):=by rw[K1 _ (by omega)];omega
 have hinl:=hvl.inS (k:=j) hjl;have hatl:=hvl.at_ (i:=j) (x:=(b9 p).l[j]) (ew4 hjl);have hz17:A3.sz It=17:=rfl;rw[hz17]at hatl;have hmem:=ex8 hjl;have hfits:=hr.fits _ hmem;have hwts:=ac5 p hw _ hmem;have hite:(b9 p).it ((j:Int)+1)=(b9 p).l[j]:=by
  unfold Sh.it;rw[show((j:Int)+1-1).toNat=j by omega,List.getD,ew4 hjl];rfl
 have hGv:(z7 p).takers q ((j:Int)+1) n=if((b9 p).l[j]).s.kind≠4 then[⟨q,2,(j:Int)+1,e0⟩]
   else(((((b9 p).l[j]).s.args.zip ((z7 p).callee ((b9 p).l[j]).s).params).filter fun x=>(T7 x.1).contains n).map fun x=>(⟨q,5,(j:Int)+1,x.2.name⟩:Vx)) ++
    if(N8 p n&&(G8 (ab8 p) ((b9 p).pr ((b9 p).l[j]).s.proc)).contains n)=true then[(⟨q,5,(j:Int)+1,n⟩:Vx)]else[]:=by
  have hs:(z7 p).s=b9 p:=rfl;have hi:(z7 p).ins=ab8 p:=rfl;unfold Bk.takers;rw[if_neg hne,hs,hi,hite,I1]
 generalize(b9 p).l[j]=it at hatl hfits hGv hwts;have hwta:∀ag∈it.s.args,R0 ag.x≤1000000:=fun ag h=>ex3 (cW4 it.s ag h) hwts;obtain⟨hats,_,_⟩:=hatl.it;obtain⟨sv,hsv,ldv,_⟩:=hats.st_v;have lv0:=ldv w (i4 _);obtain⟨d,wz,w1,hal1,hst1,hx1,hat⟩:=aS1 hsv (i4 _);obtain⟨_,va,_,_,_,hva,_,_,_,ldd,_⟩:=hat.st;obtain⟨sv2,hsv2,_,sdv2⟩:=hat.st_v;have l1:=ldd w1 (i4 _);rcases ew5 (decide (it.s.kind=4))with h4|h4;rotate_left
 ·have e4:=ew9 h4;simp only[m8,n8,v8,simprocAttr,h0,k0,lb0,ls0,hwj,hinl,lv0,hal1,hst1,l1,h4,hse];refine B7 aj0 (H7 gb T cs0 q 2 ((j:Int)+1) e0 w1 (hblk w1 hx1) hcq) (fun w2 hx2=>?_);obtain⟨u,w3,q1,q2,q3,_⟩:=cY4 ⟨q,2,(j:Int)+1,e0⟩ w2 (b7 (hx1.trans hx2));simp only[m8,simprocAttr,q1];refine n9 results64 ?_;simp only[p7,simprocAttr];refine⟨?_,(hx1.trans hx2).trans q3⟩;rw[hGv,if_pos e4];exact q2
 have e4:=ew8 h4;obtain⟨c,hc⟩:=ap5 (hfits e4);rw[if_neg (by simpa using e4),bq7 hc,hc.pr]at hGv;have hlen:=hc.len;have hpl8:=N6 hr.may hc.lt;have hatp:=hvp.at_ (i:=c) (x:=p.procs[c]'hc.lt) (ew4 hc.lt);have hinp:=hvp.inS (k:=c) hc.lt;have hz5:A3.sz Pr=5:=rfl;rw[hz5]at hatp;obtain⟨vpa,_,_,_,hvpa,_,_,_,ldr,_⟩:=hatp.pr;have hkp:=hc.pr;generalize(p.procs[c]'hc.lt).params=pas at hGv hlen hpl8 hvpa;obtain⟨hrow,hrise,hfew⟩:=(aF6 hr hw).row hc.lt;generalize G8 (ab8 p) (c:Int)=row at hrow hrise hfew hGv;obtain⟨ui,hui,hci⟩:=R.row hvi (show(z7 p).ins[c]?=some row from hrow);have hini:=hvi.inS (k:=c) (show c<(ab8 p).length from(ex1.1 hrow).1);have hSa:=hva.isS;have hna:=hva.vlen;have hx1d:=hx1.trans (o6.drew w1);have t0:∀K f d w0',B6 prog (fun w'=>o6 w1.drew w') (Instr.loadAt 78 (.pointer (some ⟨gb,0,none⟩))) K f d w0'=K (A7 f d (.pointer (some a))) w0':=fun K f d w0'=>A0 (w0:=w1.drew) (o9.refl _) fun w' h=>F0 (i:=0) (hblk w' (hx1d.trans h)) hc0 bb3;have t5:=sdv2 (fun w'=>o6 w1.drew w') w1.drew (o9.refl _) fun w' h=>b7 ((o6.drew w1).trans h);simp only[m8,n8,v8,simprocAttr,h0,k0,lb0,ls0,hwj,hinl,lv0,hal1,hst1,l1,h4];refine C2 (fun w'=>o6 w1.drew w') 5 (B0 [0,1,2,3,4]) (by decide +kernel) (o9.refl _) ?_;simp only[D5,B0,m8,n8,simprocAttr,t0,t5];refine B7 bz0 (am1 a (z7 p) p sv2 it.s w1.drew (ha.mono (b7 hx1d)) rfl hr.may (hsv2.mono (b7 (o6.drew w1)))) (fun w2 hx2=>?_);rw[hkp];have hx12:=(o6.drew w1).trans hx2;have l2:=ldd w2 (b7 hx12);have hzl:(it.s.args.zip pas).length=it.s.args.length:=by rw[List.length_zip];omega
 simp only[m8,n8,simprocAttr,l2,hSa,hna];refine n7 [0,1,2,7,9,47,48] (σ:=Nat×Value) (fun t f w'=>f 49 = .int .i64 t.1∧f 8=t.2∧t.1≤it.s.args.length∧A9 (d7 w1) w' 36 t.2 ((((it.s.args.zip pas).take t.1).filter fun x=>(T7 x.1).contains n).map fun x=>(⟨q,5,(j:Int)+1,x.2.name⟩:Vx))∧o6 w1 w') (fun t=>it.s.args.length-t.1) (0,.slice none 0 0) (by decide +kernel) ?_ ?_
 ·simp only[p7,simprocAttr];exact⟨by trivial,by trivial,ex6 _,A9.nil _ _ _,hx12⟩
 rintro⟨k,u⟩ f w3 hk ⟨h49,h8,hkl,ho3,hx3⟩;simp only at h49 h8 hkl ho3;simp only[ew6,p7,simprocAttr]at hk;obtain⟨g0,g1,g2,g7,g9,g47,g48,_⟩:=hk;have hcnt:((((it.s.args.zip pas).take k).filter fun x=>(T7 x.1).contains n).map fun x=>(⟨q,5,(j:Int)+1,x.2.name⟩:Vx)).length≤k:=by
  rw[ex7];refine ex3 (ez0 _ _) ?_;rw[ex4];omega
 have hx03:=hx1.trans hx3;simp only[m8,n8,simprocAttr,h49,g48];refine i5 (fun hc2=>?_) (fun hc2=>?_)
 ·have hlt:k<it.s.args.length:=by simpa using hc2
  have hltp:k<pas.length:=by omega
  have hltz:k<(it.s.args.zip pas).length:=by omega
  have hin:=hva.inS hlt;obtain⟨sv,hsv,hld⟩:=F4 (P:=prog) (t:=101) hva (b7 hx3) (ew4 hlt) ax8 ay0 ax9 T2;rw[T2]at hld;have htk:=aB6 (fun x:Ar×Pa=>(T7 x.1).contains n) (fun x=>(⟨q,5,(j:Int)+1,x.2.name⟩:Vx)) _ hltz;rw[List.getElem_zip]at htk;simp only at htk;have hwk:=hwta _ (ex8 hlt);have hatpa:=hvpa.at_ (i:=k) (x:=pas[k]) (ew4 hltp);have hinpa:=hvpa.inS (k:=k) hltp;have hz2:A3.sz Pa=2:=rfl;rw[hz2]at hatpa;obtain⟨ldpa,_⟩:=hatpa.pa;generalize pas[k]=pa at htk ldpa;generalize it.s.args[k]=ag at hsv htk hwk;generalize hxs:(((it.s.args.zip pas).take k).filter fun x=>(T7 x.1).contains n).map (fun x=>(⟨q,5,(j:Int)+1,x.2.name⟩:Vx))=xs at ho3 htk hcnt;obtain⟨d4,wz4,w4,hal4,hst4,hx4,hat4⟩:=aS0 (hsv.mono (b7 hx3)) (i4 _);obtain⟨sa,hsa,ldsa,_⟩:=hat4.ar_v;have l4:=ldsa w4 (i4 _);have hspl:(T7 ag).length≤1000000000:=by
   unfold T7;split
   ·simp
   ·have:=Z8 ag.x;omega
  simp only[m8,n8,v8,simprocAttr,h49,g47,hin,hld,hal4,hst4,l4];refine z6 ee5 (bV9 sa ag w4 hsa hwk) ?_;rintro us w5 ⟨hos,hx5⟩;have hx15:=(hx3.trans hx4).trans hx5;have hx05:=hx1.trans hx15;simp only[m8,simprocAttr,g2];refine D1 ab7 (N5 us (T7 ag) n w5 (hos.rw_ (b7 hx5)) hspl) ?_;rcases ew5 ((T7 ag).contains n)with h6|h6;rotate_left
  ·rw[h6,if_neg (by simp),ez3]at htk;simp only[m8,n8,simprocAttr,h6,h8,h49];refine⟨(k+1,u),by simp only[];omega,by simp only[];rw[B2 k (by omega)],by trivial,by simp only[];omega,?_,hx15⟩;simp only[];rw[htk];exact(ho3.ext hx4).ext hx5
  rw[h6,if_pos rfl]at htk;have hle5:=b7 hx05;have k5:(Instr.loadAt 78 (.pointer (some ⟨gb,0,none⟩))).run prog w5 = .ok (.pointer (some a)) w5:=F0 (i:=0) (hblk w5 hx05) hc0 bb3;have lb5:=ldb w5 hle5;have lp5:=ldp w5 hle5;have lr5:=ldr w5 hle5;have lpa5:=ldpa w5 hle5;simp only[m8,n8,v8,simprocAttr,h6,h8,g0,g1,g9,k5,lb5,lp5,hinp,lr5,hinpa,lpa5];refine B7 aj0 (H7 gb T cs0 q 5 ((j:Int)+1) pa.name w5 (hblk w5 hx05) hcq) (fun w6 hx6=>?_);obtain⟨p1,u7,w7,p2,p3,p4,p5⟩:=cB6 (e:=30) (((ho3.ext hx4).ext hx5).ext hx6) ⟨q,5,(j:Int)+1,pa.name⟩ (by omega) (b7 (hx15.trans hx6));simp only[m8,n8,simprocAttr,p1,p2,h49];refine⟨(k+1,u7),by simp only[];omega,by simp only[];rw[B2 k (by omega)],by trivial,by simp only[];omega,?_,(((ho3.ext hx4).ext hx5).ext hx6).ext2 (hx15.trans hx6) p4⟩;simp only[];rw[htk];exact p3
 have hge:k=it.s.args.length:=by simp at hc2;omega
 subst hge;rw[eA6 (by omega)]at ho3 hcnt;generalize hA:((it.s.args.zip pas).filter fun x=>(T7 x.1).contains n).map (fun x=>(⟨q,5,(j:Int)+1,x.2.name⟩:Vx))=A at hGv ho3 hcnt;have hle3:=b7 hx03;have k3:(Instr.loadAt 78 (.pointer (some ⟨gb,0,none⟩))).run prog w3 = .ok (.pointer (some a)) w3:=F0 (i:=0) (hblk w3 hx03) hc0 bb3;have lb3:=ldb w3 hle3;have hli3:=G3 (P:=prog) (t:=22) hci hle3 M2;simp only[m8,n8,simprocAttr,g0,g2,k3];refine D1 cw3 (aJ5 a (z7 p) p n w3 (ha.mono hle3) rfl hr.may) ?_;rcases ew5 (N8 p n)with h7|h7;rotate_left
 ·rw[h7,Bool.false_and,if_neg (by simp),ez3]at hGv;simp only[m8,simprocAttr,h7,h8];refine n9 results64 ?_;simp only[p7,simprocAttr];rw[hGv];exact⟨ho3.backN hx1,hx03⟩
 rw[h7,eG4]at hGv;simp only[m8,n8,v8,simprocAttr,h7,g0,g2,g9,k3,lb3,hini,hli3];refine D1 bI2 (aa5 ui row n w3 (A3.mono hle3 hui) (by omega) hrise) ?_;rcases ew5 (row.contains n)with h8'|h8';rotate_left
 ·rw[h8',if_neg (by simp),ez3]at hGv;simp only[m8,simprocAttr,h8,h8'];refine n9 results64 ?_;simp only[p7,simprocAttr];rw[hGv];exact⟨ho3.backN hx1,hx03⟩
 rw[h8',if_pos rfl]at hGv;simp only[m8,simprocAttr,h8,h8',g0,g1,g2];refine B7 aj0 (H7 gb T cs0 q 5 ((j:Int)+1) n w3 (hblk w3 hx03) hcq) (fun w4 hx4=>?_);obtain⟨p1,u5,w5,p2,p3,p4,p5⟩:=cB6 (e:=30) (ho3.ext hx4) ⟨q,5,(j:Int)+1,n⟩ (by omega) (b7 (hx3.trans hx4));simp only[m8,simprocAttr,p1,p2];refine n9 results64 ?_;simp only[p7,simprocAttr];rw[hGv];exact⟨p3.backN hx1,hx1.trans ((ho3.ext hx4).ext2 (hx3.trans hx4) p4)⟩
theorem ee6:ag0 prog 111=true:=by kernel_rfl
theorem ee7:ag0 prog 113=true:=by kernel_rfl
theorem aX6{α:Type}[DecidableEq α]:∀(l:List α),H4 l=ad2 (fun a b=>decide (a=b)) l
 | []=>rfl
 | [x]=>rfl
 | x::y::l=>by
  have ih:=aX6 (y::l);rw[H4,ih];simp only[ad2,ag8];by_cases h:x=y
  ·subst h;simp
  ·have h':¬y=x:=fun e=>h e.symm;simp[h,h']
def bc2(a b:Eg):Bool:=decide (a=b)
theorem bQ6{h:Hp}{w:World}{v:Value}{xs:List Eg}(ho:A9 h w 60 v xs)(hl:xs.length≤1000000000)(hh:B4 h (d7 w)):
  Calls prog 113 #[v] w fun e w'=>∃u,e = .returned u∧(A9 h w' 60 u (H4 xs)∧o9 (A4 v) w w'∧∀b,A4 u b→A4 v b):=by
 refine d9 (args:=[v]) hm func113 rfl (by kernel_rfl) (by show 1≤_;decide +kernel) ?_;rw[aX6];have hEq:(fun a b:Eg=>decide (a=b))=bc2:=rfl;rw[hEq];have hS:=ho.isS;have hn:=ho.vlen;have hvc:=ho.vcap;have hz:A3.sz Eg=9:=rfl;rcases ew5 (decide ((xs.length:Int)<2))with h2|h2
 ·simp only[m8,n8,simprocAttr,hS,hn,h2];refine n9 results113 ?_;simp only[p7,simprocAttr];have hlt:xs.length<2:=by have:=ew8 h2;omega
  have:=Z2 bc2 xs xs.length (ex9 _) fun j hj h1 h2=>by omega
  rw[ex5]at this;exact⟨by rw[this];exact ho,o9.refl _,fun b hb=>hb⟩
 have h2':2≤xs.length:=by have:=ew9 h2;omega
 simp only[m8,n8,simprocAttr,hS,hn,h2];refine n7 [0] (σ:=Nat) (fun i f w'=>f 3 = .int .i64 i∧1≤i∧i≤xs.length∧(∀j (hj:j<xs.length),1≤j→j<i→bc2 xs[j] (xs[j-1]'(by omega))=false)∧o6 w w') (fun i=>xs.length-i) 1 (by decide +kernel) ?_ ?_
 ·simp only[p7,simprocAttr];exact⟨by trivial,by simp,by omega,fun j _ h1 h2=>by omega,o9.refl _⟩
 rintro i f w2 hk ⟨h3,h1i,hil,hno,hx2⟩;simp only[ew6,p7,simprocAttr]at hk;obtain⟨e0,_⟩:=hk;simp only[m8,n8,simprocAttr,h3,e0,hS,hn];refine i5 (fun hc=>?_) (fun hc=>?_);rotate_left
 ·have hge:i=xs.length:=by simp at hc;omega
  subst hge;simp only[m8,simprocAttr,e0];refine n9 results113 ?_;simp only[p7,simprocAttr];have:=Z2 bc2 xs xs.length (ex9 _) hno;rw[ex5]at this;exact⟨by rw[this];exact ho.ext hx2,o9.up hx2,fun b hb=>hb⟩
 have hlt:i<xs.length:=by simpa using hc
 have hlt1:i-1<xs.length:=by omega
 have hR:R (d7 w2) v xs:=(ho.ext hx2).rw_ (p6 hh (b7 hx2));have hin:=ho.inS hlt;have hin1:=ho.inS hlt1;have hwi:IntKind.i64.wrap ((i:Int)-1)=((i-1:Nat):Int):=by rw[K1 _ (by omega)];omega
 obtain⟨vx,hvx,_,sx⟩:=(hR.at_ (ew4 hlt)).eg_v;obtain⟨vy,hvy,_,sy⟩:=(hR.at_ (ew4 hlt1)).eg_v;obtain rfl:=hvx.N;obtain rfl:=hvy.N;have s1:=sx (fun w'=>o6 w2.drew w') w2.drew (o9.refl _) fun w' h=>b7 ((o6.drew w2).trans h);have s2:=sy (fun w'=>o6 w2.drew w') w2.drew (o9.refl _) fun w' h=>b7 ((o6.drew w2).trans h);rw[hz]at s1 s2;have hx03:=hx2.trans (o6.drew w2);have hql:=fun w0 a b=>cu5 w0 a b xs[i] xs[i-1];have hqd:decide (xs[i]=xs[i-1])=bc2 xs[i] xs[i-1]:=rfl;rw[hqd]at hql;simp only[m8,simprocAttr];refine C2 (fun w'=>o6 w2.drew w') 9 (B0 [0,1,2,3,4,5,6,7,8]) (by decide +kernel) (o9.refl _) ?_;simp only[D5,B0,m8,n8,v8,simprocAttr,h3,e0,hin,hin1,hwi,s1,s2];rcases ew5 (bc2 xs[i] xs[i-1])with hq|hq;rotate_left
 ·simp only[m8,n8,simprocAttr,L9,t8.cells,hql,hq,h3];refine⟨i+1,by omega,by rw[B2 i (by omega)],by omega,by omega,fun j hj h1 h2=>?_,hx03⟩;rcases eA1 j i with h|h
  ·exact hno j hj h1 h
  ·obtain rfl:j=i:=by omega
   exact hq
 have c1:decide ((i:Int)≤(xs.length:Int))=true:=by simp;omega
 have c2:decide ((xs.length:Int)≤(vcap v:Int))=true:=by simp;omega
 have hd:∀k:Nat,isS (reS v k xs.length 9)=true∧vlen (reS v k xs.length 9)=xs.length-k:=fun k=>by
  rcases ho with⟨rfl,rfl⟩|⟨b,c,cur,rfl,_⟩
  ·exact⟨rfl,rfl⟩
  ·exact⟨rfl,rfl⟩
 obtain⟨hSd,hnd⟩:=hd i;have hni:((xs.length-i:Nat):Int)=(xs.length:Int)-i:=by omega
 simp only[m8,n8,H5,simprocAttr,L9,t8.cells,hql,hq,h3,e0,hS,hn,c1,c2];refine n7 [0,4] (σ:=Nat×Nat×List Eg) (fun s f w'=>f 5 = .int .i64 s.1∧f 3 = .int .i64 s.2.1∧1≤s.1∧i+s.1≤xs.length∧s.2.1+1≤i+s.1∧s.2.2.length=xs.length∧A9 h w' 60 v s.2.2∧(∀j (hj:j<xs.length) (hj2:j<s.2.2.length),i+s.1≤j+1→s.2.2[j]=xs[j])∧s.2.2.take s.2.1=ad2 bc2 (xs.take (i+s.1))∧o9 (A4 v) w w') (fun s=>xs.length-(i+s.1)) (1,i,xs) (by decide +kernel) ?_ ?_
 ·simp only[p7,simprocAttr];refine⟨by trivial,by trivial,by trivial,by omega,by omega,by trivial,ho.ext hx03,fun j _ _ _=>by trivial,?_,o9.up hx03⟩;rw[am8 bc2 xs hlt (by omega),if_pos hq,Z2 bc2 xs i (by omega) hno]
 rintro⟨m,c,ys⟩ f4 w4 hk ⟨h7,h5c,h1m,him,hcm,hyl,hoy,hsuf,hpre,hm4⟩;simp only at h7 h5c h1m him hcm hyl hoy hsuf hpre;simp only[ew6,p7,simprocAttr]at hk;obtain⟨g0,g6,_⟩:=hk;rw[e0]at g0;have hh4:B4 h (d7 w4):=I0 hh hm4 fun b hb=>ho.free hb;have hlen:decide ((m:Int)<((xs.length-i:Nat):Int))=decide (i+m<xs.length):=by rw[eB0];omega
 simp only[m8,n8,simprocAttr,h7,g6,hSd,hnd,hlen];refine i5 (fun hc=>?_) (fun hc=>?_)
 ·have hm':i+m<xs.length:=ew8 hc;have hm1:i+m-1<xs.length:=by omega
  have hRy:R (d7 w4) v ys:=hoy.rw_ hh4;have hsub:=bD8 hRy (show i≤xs.length by omega) (show xs.length≤ys.length by omega);rw[hz]at hsub;have hyt:(ys.take xs.length).drop i=ys.drop i:=by rw[←hyl,ex5]
  rw[hyt]at hsub;have hg1:(ys.drop i)[m]?=some xs[i+m]:=by
   rw[eF1,ew4 (by omega),hsuf (i+m) hm' (by omega) (by omega)]
  have hg2:(ys.drop i)[m-1]?=some xs[i+m-1]:=by
   rw[eF1,show i+(m-1)=i+m-1 by omega,ew4 (by omega),hsuf (i+m-1) hm1 (by omega) (by omega)]
  have hin4:=hsub.inS (ex1.1 hg1).1;have hin5:=hsub.inS (ex1.1 hg2).1;have hwm:IntKind.i64.wrap ((m:Int)-1)=((m-1:Nat):Int):=by rw[K1 _ (by omega)];omega
  obtain⟨ux,hux,lx,tx⟩:=(hsub.at_ hg1).eg_v;obtain⟨uy,huy,_,ty⟩:=(hsub.at_ hg2).eg_v;obtain rfl:=hux.N;obtain rfl:=huy.N;have t1:=tx (fun w'=>o6 w4.drew w') w4.drew (o9.refl _) fun w' h=>b7 ((o6.drew w4).trans h);have t2:=ty (fun w'=>o6 w4.drew w') w4.drew (o9.refl _) fun w' h=>b7 ((o6.drew w4).trans h);rw[hz]at t1 t2 lx;have hql4:=fun w0 a b=>cA0 w0 a b xs[i+m] xs[i+m-1];have hqd4:decide (xs[i+m]=xs[i+m-1])=bc2 xs[i+m] xs[i+m-1]:=rfl;rw[hqd4]at hql4;simp only[m8,simprocAttr];refine C2 (fun w'=>o6 w4.drew w') 9 (B0 [0,1,2,3,4,5,6,7,8]) (by decide +kernel) (o9.refl _) ?_;simp only[D5,B0,m8,n8,v8,simprocAttr,h7,g6,hin4,hin5,hwm,t1,t2];have hx45:=o6.drew w4;have ho5:=hoy.ext hx45;have hm5:o9 (A4 v) w w4.drew:=hm4.chain (o9.up hx45) fun _ _ h=>h;have hct:=am8 bc2 xs (k:=i+m) hm' (by omega);rcases ew5 (bc2 xs[i+m] xs[i+m-1])with hq4|hq4
  ·rw[if_pos hq4]at hct;simp only[m8,n8,simprocAttr,L9,t8.cells,hql4,hq4,h7];refine⟨(m+1,c,ys),by simp only[];omega,by simp only[];rw[B2 m (by omega)],h5c,by simp only[];omega,by simp only[];omega,by simp only[];omega,hyl,ho5,fun j hj hj2 h=>hsuf j hj hj2 (by simp only at h;omega),?_,hm5⟩;simp only[];rw[hpre,←hct,eF8]
  ·rw[if_neg (by rw[hq4];simp)]at hct;have hcy:c<ys.length:=by omega
   have lx5:=lx w4.drew (b7 hx45);obtain⟨w6,e6,ho6,hm6⟩:=aK8 (P:=prog) (t:=60) ho5 aD7 ac9 hcy xs[i+m];rw[hz]at e6;have hin6:=hoy.inS hcy;simp only[t8.cells]at lx5 e6;simp only[m8,n8,v8,simprocAttr,L9,t8.cells,hql4,hq4,h5c,g0,g6,h7,hin4,hin6,lx5,e6];refine⟨(m+1,c+1,ys.set c xs[i+m]),by simp only[];omega,by simp only[];rw[B2 m (by omega)],by simp only[];rw[B2 c (by omega)],by simp only[];omega,by simp only[];omega,by simp only[];omega,by simp only[eD7];exact hyl,ho6,fun j hj hj2 h=>?_,?_,hm5.chain hm6 fun _ _ h=>h⟩
   ·simp only at h ⊢;rw[List.getElem_set_ne (by omega)];exact hsuf j hj (by omega) (by omega)
   ·simp only[];have hcs:c<(ys.set c xs[i+m]).length:=by simpa using hcy
    rw[ex2 hcs,List.getElem_set_self,List.take_set_of_le (ex9 _),hpre,←hct,eF8]
 ·have hm':i+m=xs.length:=by have:=ew9 hc;omega
  rw[hm',ex5]at hpre;have hcl:c<ys.length:=by omega
  have c3:decide ((c:Int)≤(xs.length:Int))=true:=by simp;omega
  have c4:decide ((c:Int)≤(vcap v:Int))=true:=by simp;omega
  obtain⟨w6,e6,ho6,hm6,hb6⟩:=aU9 (P:=prog) (t:=32) (ty:=0) hoy rfl bv8 rfl (by simp[Value.cells,Value.oneCell']) hcl;rw[hyl,hz]at e6;rw[hz]at ho6 hb6;simp only[m8,n8,H5,simprocAttr,bj0,h5c,g0,hS,hn,c2,c3,c4,e6];refine n9 results113 ?_;simp only[p7,simprocAttr];exact⟨by rw[←hpre];exact ho6,hm4.chain hm6 fun _ _ h=>h,hb6⟩
theorem bP1{h:Hp}{w:World}{v:Value}{xs:List Eg}(ho:A9 h w 60 v xs)(hl:xs.length≤1000000000)(hh:B4 h (d7 w)):
  Calls prog 65 #[v] w fun e w'=>∃u,e = .returned u∧(A9 h w' 60 u (bl2 xs)∧o9 (A4 v) w w'∧∀b,A4 u b→A4 v b):=by
 refine d9 (args:=[v]) hm func65 rfl (by kernel_rfl) (by show 1≤_;decide +kernel) ?_;simp only[m8,n8,simprocAttr];refine z6 ee6 (bM0 ho hl fun a _ b _ h1 h2=>aB1 (aM9.eq0 h1 h2)) ?_;rintro _ w1 ⟨ho1,hm1⟩;simp only[m8,simprocAttr];refine z6 ee7 (bQ6 ho1 (by rw[(H6 _ _).length_eq];exact hl) (I0 hh hm1 fun b hb=>ho.free hb)) ?_;rintro u w2 ⟨ho2,hm2,hb2⟩;simp only[m8,simprocAttr];refine n9 results65 ?_;simp only[p7,simprocAttr];exact⟨ho2,hm1.trans hm2,hb2⟩
theorem aY1(va vb:Value)(la lb:List A6)(w:World)(ha:R (d7 w) va la)(hb:R (d7 w) vb lb)(hl:la.length≤1000000000):
  Calls prog 27 #[va,vb] w fun e w'=>∃u,e = .returned u∧(u = .bool (decide (la=lb))∧o6 w w'):=by
 refine d9 (args:=[va,vb]) hm func27 rfl (by kernel_rfl) (by show 2≤_;decide +kernel) ?_;have hSa:=ha.isS;have hna:=ha.vlen;have hSb:=hb.isS;have hnb:=hb.vlen;rcases ew5 (decide ((la.length:Int)=(lb.length:Int)))with h0|h0;rotate_left
 ·simp only[m8,n8,simprocAttr,hSa,hna,hSb,hnb,h0];refine n9 results27 ?_;simp only[p7,simprocAttr];refine⟨?_,o9.refl _⟩;rw[eH5 fun e=>ew9 h0 (by rw[e])]
 have hlen:la.length=lb.length:=by have:=ew8 h0;omega
 simp only[m8,n8,simprocAttr,hSa,hna,hSb,hnb,h0];refine n7 [0,1,11,12] (σ:=Nat) (fun k f w'=>f 13 = .int .i64 k∧k≤la.length∧(∀j,j<k→la[j]?=lb[j]?)∧o6 w w') (fun k=>la.length-k) 0 (by decide +kernel) ?_ ?_
 ·simp only[p7,simprocAttr];exact⟨by trivial,ex6 _,fun j h=>by omega,o9.refl _⟩
 rintro k f w1 hk ⟨h13,hkl,hall,hx⟩;simp only[ew6,p7,simprocAttr]at hk;obtain⟨e0,e1,e11,e12,_⟩:=hk;simp only[m8,n8,simprocAttr,h13,e12];refine i5 (fun hc=>?_) (fun hc=>?_);rotate_left
 ·have hge:k=la.length:=by simp at hc;omega
  subst hge;simp only[m8,simprocAttr];refine n9 results27 ?_;simp only[p7,simprocAttr];refine⟨?_,hx⟩;rw[eD8 (eI6 fun j=>?_)];rcases eA1 j la.length with h|h
  ·exact hall j h
  ·rw[eD2 h,eD2 (by omega)]
 have hlt:k<la.length:=by simpa using hc
 have hltb:k<lb.length:=by omega
 have hinA:=ha.inS hlt;have hinB:=hb.inS hltb;have hxd:=hx.trans (o6.drew w1);have t1:∀K f d w0',B6 prog (fun w'=>o6 w1.drew w') (Instr.loadAt 9 (.pointer (some (H1 va k)))) K f d w0'=K (A7 f d (o7 la[k])) w0':=fun K f d w0'=>A0 (w0:=w1.drew) (o9.refl _) fun w' h=>ldS ha (b7 (hxd.trans h)) hlt;have t2:∀K f d w0',B6 prog (fun w'=>o6 w1.drew w') (Instr.loadAt 9 (.pointer (some (H1 vb k)))) K f d w0'=K (A7 f d (o7 lb[k])) w0':=fun K f d w0'=>A0 (w0:=w1.drew) (o9.refl _) fun w' h=>ldS hb (b7 (hxd.trans h)) hltb;simp only[m8,simprocAttr,h13];refine C2 (fun w'=>o6 w1.drew w') 8 (B0 [0,1,2,3,4,5,6,7]) (by decide +kernel) (o9.refl _) ?_;simp only[D5,B0,m8,n8,v8,simprocAttr,e0,e1,hinA,hinB,t1,t2];rcases ew5 (decide (la[k]=lb[k]))with hq|hq
 ·simp only[m8,n8,simprocAttr,hq,h13];refine⟨k+1,by omega,by rw[B2 k (by omega)],by omega,fun j hj=>?_,hxd⟩;rcases eA1 j k with h|h
  ·exact hall j h
  ·obtain rfl:j=k:=by omega
   rw[ew4 hlt,ew4 hltb,ew8 hq]
 ·simp only[m8,n8,simprocAttr,hq];refine n9 results27 ?_;simp only[p7,simprocAttr];refine⟨?_,hxd⟩;rw[eH5 fun e=>ew9 hq (by simp only[e])]
def ad9(x y:Vx)(k:Int)(e:Eg):Bool:=decide (e.src=x)&&(decide (e.dst=y)&&(decide (k=0)||decide (e.kind=k)))
theorem bK5(v:Value)(l:List Eg)(x y:Vx)(k:Int)(w:World)(hv:R (d7 w) v l)(hl:l.length≤1000000000):
  Calls prog 31 #[v,.agg (t8.cells x).toArray,.agg (t8.cells y).toArray,.int .i64 k] w fun e w'=>∃u,e = .returned u∧(u = .bool (l.any (ad9 x y k))∧o6 w w'):=by
 refine d9 (args:=[v,.agg (t8.cells x).toArray,.agg (t8.cells y).toArray,.int .i64 k]) hm func31 rfl (by kernel_rfl) (by show 4≤_;decide +kernel) ?_;have hS:=hv.isS;have hn:=hv.vlen;obtain⟨d1,w1,hb1,hx1,hat1⟩:=bc9 (SV.ofN (d7 w) x) (i4 _);obtain⟨d2,w2,hb2,hx2,hat2⟩:=bc9 (SV.ofN (d7 w1) y) (i4 _);obtain⟨sv1,hsv1,ld1,_⟩:=hat1.vx_v;obtain⟨sv2,hsv2,ld2,_⟩:=hat2.vx_v;obtain rfl:=hsv1.N;obtain rfl:=hsv2.N;have hx02:=hx1.trans hx2;simp only[m8,n8,simprocAttr,hb1,hb2,hS,hn];refine n7 [0,3,5,6,11,12] (σ:=Nat) (fun i f w'=>f 13 = .int .i64 i∧i≤l.length∧(∀j (hj:j<l.length),j<i→ad9 x y k l[j]=false)∧o6 w2 w') (fun i=>l.length-i) 0 (by decide +kernel) ?_ ?_
 ·simp only[p7,simprocAttr];exact⟨by trivial,ex6 _,fun j _ h=>by omega,o9.refl _⟩
 rintro i f w3 hk ⟨h13,hil,hno,hx3⟩;simp only[ew6,p7,simprocAttr]at hk;obtain⟨e0,e3,e5,e6,e11,e12,_⟩:=hk;simp only[m8,n8,simprocAttr,h13,e12];refine i5 (fun hc=>?_) (fun hc=>?_);rotate_left
 ·have hge:i=l.length:=by simp at hc;omega
  subst hge;simp only[m8,simprocAttr];refine n9 results31 ?_;simp only[p7,simprocAttr];refine⟨?_,hx02.trans hx3⟩;have:l.any (ad9 x y k)=false:=by
   rw[List.any_eq_false];intro e he;obtain⟨j,hj,rfl⟩:=eB5.1 he;rw[hno j hj hj];simp
  rw[this]
 have hlt:i<l.length:=by simpa using hc
 have hin:=hv.inS hlt;obtain⟨sv,hsv,hld⟩:=F4 (P:=prog) (t:=60) hv (b7 (hx02.trans hx3)) (ew4 hlt) aR5 aR8 aD7 ac9;rw[ac9]at hld;have hany:ad9 x y k l[i]=true→l.any (ad9 x y k)=true:=fun h=>eJ7.2 ⟨_,ex8 hlt,h⟩;have hno2:ad9 x y k l[i]=false→∀j (hj:j<l.length),j<i+1→ad9 x y k l[j]=false:=fun h j hj hji=>by
  rcases eA1 j i with h'|h'
  ·exact hno j hj h'
  ·obtain rfl:j=i:=by omega
   exact h
 generalize l[i]=e at hsv hany hno2;obtain⟨d,wz,w4,hal,hst,hx4,hat⟩:=bC6 (hsv.mono (b7 (hx02.trans hx3))) (i4 _);obtain⟨hxs,hxd,ldk,_⟩:=hat.eg;obtain⟨sv3,hsv3,ls,_⟩:=hxs.vx_v;obtain⟨sv4,hsv4,ldd,_⟩:=hxd.vx_v;obtain rfl:=hsv3.N;obtain rfl:=hsv4.N;have l1:=ls w4 (i4 _);have l2:=ldd w4 (i4 _);have l3:=ldk w4 (i4 _);have l4:=ld1 w4 (b7 (hx2.trans (hx3.trans hx4)));have l5:=ld2 w4 (b7 (hx3.trans hx4));have hql:=fun w0 a b=>cu6 w0 a b e.src x;have hql2:=fun w0 a b=>cu6 w0 a b e.dst y;have hx24:=hx3.trans hx4;rcases ew5 (decide (e.src=x))with h1|h1;rotate_left
 ·simp only[t8.cells]at l1 l4;simp only[m8,n8,v8,simprocAttr,h13,e5,e11,hin,hld,hal,hst,l1,l4,L9,hql,h1];exact⟨i+1,by omega,by rw[B2 i (by omega)],by omega,hno2 (by unfold ad9;rw[h1];rfl),hx24⟩
 rcases ew5 (decide (e.dst=y))with h2|h2;rotate_left
 ·simp only[t8.cells]at l1 l2 l4 l5;simp only[m8,n8,v8,simprocAttr,h13,e5,e6,e11,hin,hld,hal,hst,l1,l4,l2,l5,L9,hql,hql2,h1,h2];exact⟨i+1,by omega,by rw[B2 i (by omega)],by omega,hno2 (by unfold ad9;rw[h1,h2];rfl),hx24⟩
 simp only[t8.cells]at l1 l2 l4 l5;rcases ew5 (decide (k=0))with h3|h3
 ·simp only[m8,n8,v8,simprocAttr,h13,e3,e5,e6,e11,hin,hld,hal,hst,l1,l4,l2,l5,L9,hql,hql2,h1,h2,h3];refine n9 results31 ?_;simp only[p7,simprocAttr];exact⟨by rw[hany (by unfold ad9;rw[h1,h2,h3];rfl)],hx02.trans hx24⟩
 rcases ew5 (decide (e.kind=k))with h4|h4
 ·simp only[m8,n8,v8,simprocAttr,h13,e3,e5,e6,e11,hin,hld,hal,hst,l1,l4,l2,l5,l3,L9,hql,hql2,h1,h2,h3,h4];refine n9 results31 ?_;simp only[p7,simprocAttr];exact⟨by rw[hany (by unfold ad9;rw[h1,h2,h3,h4];rfl)],hx02.trans hx24⟩
 ·simp only[m8,n8,v8,simprocAttr,h13,e3,e5,e6,e11,hin,hld,hal,hst,l1,l4,l2,l5,l3,L9,hql,hql2,h1,h2,h3,h4];exact⟨i+1,by omega,by rw[B2 i (by omega)],by omega,hno2 (by unfold ad9;rw[h1,h2,h3,h4];rfl),hx24⟩
theorem aN4{α:Type}(P:α→Bool){l:List α}{k:Nat}(h:k<l.length):(l.take (k+1)).filter P=(l.take k).filter P++(if P l[k]then[l[k]]else[]):=by
 rw[ex2 h,eD4];cases hp:P l[k]<;>simp[hp]
theorem cn4(v:Value)(l:List Eg)(kd:Int)(w:World)(hv:R (d7 w) v l)(hl:l.length≤1000000000):
  Calls prog 12 #[v,.int .i64 kd] w fun ex w'=>∃u,ex = .returned u∧(A9 (d7 w) w' 60 u (l.filter fun e=>decide (e.kind=kd))∧o6 w w'):=by
 refine d9 (args:=[v,.int .i64 kd]) hm func12 rfl (by kernel_rfl) (by show 2≤_;decide +kernel) ?_;have hS:=hv.isS;have hn:=hv.vlen;simp only[m8,n8,simprocAttr,hS,hn];refine n7 [1,8,9] (σ:=Nat×Value) (fun s f w'=>f 10 = .int .i64 s.1∧f 5=s.2∧s.1≤l.length∧A9 (d7 w) w' 60 s.2 ((l.take s.1).filter fun e=>decide (e.kind=kd))∧o6 w w') (fun s=>l.length-s.1) (0,.slice none 0 0) (by decide +kernel) ?_ ?_
 ·simp only[p7,simprocAttr];exact⟨by trivial,by trivial,ex6 _,A9.nil _ _ _,o9.refl _⟩
 rintro⟨k,uL⟩ f w2 hk ⟨h10,h5,hkl,ho2,hx2⟩;simp only at h10 h5 hkl ho2 hx2;simp only[ew6,p7,simprocAttr]at hk;obtain⟨e1,e8,e9,_⟩:=hk;simp only[m8,n8,simprocAttr,h10,e9];refine i5 (fun hc=>?_) (fun hc=>?_);rotate_left
 ·have hkL:k=l.length:=by simp at hc;omega
  rw[hkL,ex5]at ho2;simp only[m8,simprocAttr,h5];refine n9 results12 ?_;simp only[p7,simprocAttr];exact⟨ho2,hx2⟩
 have hlt:k<l.length:=by simpa using hc
 have hin:=hv.inS hlt;obtain⟨sv,hsv,hld⟩:=F4 (P:=prog) (t:=60) hv (b7 hx2) (ew4 hlt) aR5 aR8 aD7 ac9;rw[ac9]at hld;have htk:=aN4 (fun e:Eg=>decide (e.kind=kd)) hlt;have hfl:((l.take k).filter fun e=>decide (e.kind=kd)).length≤1000000000:=ex3 (ez0 _ _) (by rw[ex4];omega);generalize l[k]=e at hsv htk;obtain rfl:=hsv.N;obtain⟨d,wz,w3,hal,hst,hx3,hat⟩:=bC6 (SV.ofN (d7 w2) e) (i4 _);obtain⟨_,_,sk,_⟩:=hat.eg;obtain⟨sv,hsv2,ldv,_⟩:=hat.eg_v;obtain rfl:=hsv2.N;have t3:=sk w3 (i4 _);have t4:=ldv w3 (i4 _);have hx23:=hx2.trans hx3;have ho3:=ho2.ext hx3;rcases ew5 (decide (e.kind=kd))with hd|hd
 ·obtain⟨p1,uM,w4,p2,p3,p4,p5⟩:=push (e:=32) bL8 rfl ho3 (x:=.agg (t8.cells e).toArray) (y:=e) (SV.ofN (d7 w) e).enc (by omega) (by omega) (b7 hx23);rw[hd,if_pos rfl]at htk;simp only[m8,n8,v8,simprocAttr,h10,e8,e1,hin,hld,hal,hst,t3,t4,hd,h5,p1,p2];refine⟨(k+1,uM),by simp only[];omega,by simp only[];rw[B2 k (by omega)],by trivial,by simp only[];omega,?_,?_⟩
  ·simp only[];rw[htk];exact p3
  ·exact o9.ext_of hx23 p4 fun b hb=>C5 (ho3.free hb)
 ·rw[hd,if_neg (by simp),ez3]at htk;simp only[m8,n8,v8,simprocAttr,h10,e8,e1,hin,hld,hal,hst,t3,hd];refine⟨(k+1,uL),by simp only[];omega,by simp only[];rw[B2 k (by omega)],by simpa using h5,by simp only[];omega,?_,hx23⟩;simp only[];rw[htk];exact ho3
theorem bj3(va vb:Value)(la lb:List Eg)(w:World)(ha:R (d7 w) va la)(hb:R (d7 w) vb lb)(hl:la.length≤1000000000):
  Calls prog 24 #[va,vb] w fun e w'=>∃u,e = .returned u∧(u = .bool (decide (la=lb))∧o6 w w'):=by
 refine d9 (args:=[va,vb]) hm func24 rfl (by kernel_rfl) (by show 2≤_;decide +kernel) ?_;have hSa:=ha.isS;have hna:=ha.vlen;have hSb:=hb.isS;have hnb:=hb.vlen;rcases ew5 (decide ((la.length:Int)=(lb.length:Int)))with h0|h0;rotate_left
 ·simp only[m8,n8,simprocAttr,hSa,hna,hSb,hnb,h0];refine n9 results24 ?_;simp only[p7,simprocAttr];refine⟨?_,o9.refl _⟩;rw[eH5 fun e=>ew9 h0 (by rw[e])]
 have hlen:la.length=lb.length:=by have:=ew8 h0;omega
 simp only[m8,n8,simprocAttr,hSa,hna,hSb,hnb,h0];refine n7 [0,1,11,12] (σ:=Nat) (fun k f w'=>f 13 = .int .i64 k∧k≤la.length∧(∀j,j<k→la[j]?=lb[j]?)∧o6 w w') (fun k=>la.length-k) 0 (by decide +kernel) ?_ ?_
 ·simp only[p7,simprocAttr];exact⟨by trivial,ex6 _,fun j h=>by omega,o9.refl _⟩
 rintro k f w1 hk ⟨h13,hkl,hall,hx⟩;simp only[ew6,p7,simprocAttr]at hk;obtain⟨e0,e1,e11,e12,_⟩:=hk;simp only[m8,n8,simprocAttr,h13,e12];refine i5 (fun hc=>?_) (fun hc=>?_);rotate_left
 ·have hge:k=la.length:=by simp at hc;omega
  subst hge;simp only[m8,simprocAttr];refine n9 results24 ?_;simp only[p7,simprocAttr];refine⟨?_,hx⟩;rw[eD8 (eI6 fun j=>?_)];rcases eA1 j la.length with h|h
  ·exact hall j h
  ·rw[eD2 h,eD2 (by omega)]
 have hlt:k<la.length:=by simpa using hc
 have hltb:k<lb.length:=by omega
 have hinA:=ha.inS hlt;have hinB:=hb.inS hltb;have hxd:=hx.trans (o6.drew w1);have hz9:A3.sz Eg=9:=rfl;obtain⟨ux,hux,_,tx⟩:=(ha.at_ (ew4 hlt)).eg_v;obtain⟨uy,huy,_,ty⟩:=(hb.at_ (ew4 hltb)).eg_v;obtain rfl:=hux.N;obtain rfl:=huy.N;have t1:=tx (fun w'=>o6 w1.drew w') w1.drew (o9.refl _) fun w' h=>b7 (hxd.trans h);have t2:=ty (fun w'=>o6 w1.drew w') w1.drew (o9.refl _) fun w' h=>b7 (hxd.trans h);rw[hz9]at t1 t2;simp only[t8.cells]at t1 t2;have t3:=fun(x y:Operand) K f d w0'=>A0 (P:=prog) (S:=fun w'=>o6 w1.drew w') (K:=K) (f:=f) (d:=d) (w:=w0') (w0:=w1.drew) (o9.refl _) fun w' h=>cA0 w' x y la[k] lb[k];simp only[m8,simprocAttr,h13];refine C2 (fun w'=>o6 w1.drew w') 9 (B0 [0,1,2,3,4,5,6,7,8]) (by decide +kernel) (o9.refl _) ?_;simp only[D5,B0,m8,n8,v8,simprocAttr,e0,e1,hinA,hinB,t1,t2,L9,t3];rcases ew5 (decide (la[k]=lb[k]))with hq|hq
 ·simp only[m8,n8,simprocAttr,hq,h13];refine⟨k+1,by omega,by rw[B2 k (by omega)],by omega,fun j hj=>?_,hxd⟩;rcases eA1 j k with h|h
  ·exact hall j h
  ·obtain rfl:j=k:=by omega
   rw[ew4 hlt,ew4 hltb,ew8 hq]
 ·simp only[m8,n8,simprocAttr,hq];refine n9 results24 ?_;simp only[p7,simprocAttr];refine⟨?_,hxd⟩;rw[eH5 fun e=>ew9 hq (by simp only[e])]
structure Im where
 s:St
 deep:Int
 up:Int
 els:Bool
instance:A3 Im where
 sz:=16
 pos:=by omega
 enc h cs p:=∃c,cs=c++[.int .i64 p.deep,.int .i64 p.up,.bool p.els]∧A3.enc h c p.s
 len:=by rintro h cs a ⟨c,rfl,h1⟩;have h4:c.length=13:=A3.len h1;simp[h4]
 mono:=by rintro h k cs a hk ⟨c,rfl,h1⟩;exact⟨c,rfl,A3.mono hk h1⟩
 one:=by
  rintro h cs a ⟨c,rfl,h1⟩ v hv;simp only[ey1,ey3,eB7,eH8]at hv;rcases hv with hv|rfl|rfl|rfl
  ·exact A3.one h1 v hv
  all_goals rfl
theorem cb1{h:Hp}{cs:List Value}{x:Im}:A3.enc h cs x→∃c_s,cs=c_s++([.int .i64 x.deep]:List Value)++([.int .i64 x.up]:List Value)++([.bool x.els]:List Value)∧A3.enc h c_s x.s:=by
 rintro⟨c,rfl,h1⟩;exact⟨c,by simp,h1⟩
theorem At.im{h:Hp}{a:Addr}{x:Im}(ha:At h a x):At h a x.s∧(∀w,B4 h (d7 w)→(Instr.loadAt 3 (.pointer (some (a.add 13)))).run prog w = .ok (.int .i64 x.deep) w∧(Instr.loadAt 3 (.pointer (some (a.add 14)))).run prog w = .ok (.int .i64 x.up) w∧(Instr.loadAt 4 (.pointer (some (a.add 15)))).run prog w = .ok (.bool x.els) w)∧(∀(S:World→Prop) (w0:World),S w0→(∀w,S w→B4 h (d7 w))→(∀K f d w,B6 prog S (Instr.loadAt 3 (.pointer (some (a.add 13)))) K f d w=K (A7 f d (.int .i64 x.deep)) w)∧(∀K f d w,B6 prog S (Instr.loadAt 3 (.pointer (some (a.add 14)))) K f d w=K (A7 f d (.int .i64 x.up)) w)∧(∀K f d w,B6 prog S (Instr.loadAt 4 (.pointer (some (a.add 15)))) K f d w=K (A7 f d (.bool x.els)) w)):=by
 obtain⟨cs,he,hc⟩:=ha;obtain⟨c_s,rfl,h_s⟩:=cb1 he;obtain⟨a_s0,a_s1,a_s2,a_s3,a_s4,a_s5,a_s6,a_s7,a_s8,a_s9,a_s10,a_s11,a_s12,rfl⟩:=aC7 (A3.len h_s);exact⟨aM8 hc h_s (fun j u hj=>by
  match j,hj with
  | 0,hj=>exact hj
  | 1,hj=>exact hj
  | 2,hj=>exact hj
  | 3,hj=>exact hj
  | 4,hj=>exact hj
  | 5,hj=>exact hj
  | 6,hj=>exact hj
  | 7,hj=>exact hj
  | 8,hj=>exact hj
  | 9,hj=>exact hj
  | 10,hj=>exact hj
  | 11,hj=>exact hj
  | 12,hj=>exact hj
  | m+13,hj=>simp at hj),fun w hw=>⟨p8 hc (o:=13) rfl F2 w hw,p8 hc (o:=14) rfl F2 w hw,p8 hc (o:=15) rfl ah6 w hw⟩,fun S w0 hS hw=>⟨fun K f d w=>A0 hS fun w' hw'=>p8 hc (o:=13) rfl F2 w' (hw w' hw'),fun K f d w=>A0 hS fun w' hw'=>p8 hc (o:=14) rfl F2 w' (hw w' hw'),fun K f d w=>A0 hS fun w' hw'=>p8 hc (o:=15) rfl ah6 w' (hw w' hw')⟩⟩
theorem I4.im{h k:Hp}{a:Addr}{v:Value}{x:Im}(hv:SV h v x)(ha:I4 k a v):∃u_s,SV h u_s x.s∧I4 k a u_s∧(∀w,B4 k (d7 w)→(Instr.loadAt 3 (.pointer (some (a.add 13)))).run prog w = .ok (.int .i64 x.deep) w∧(Instr.loadAt 3 (.pointer (some (a.add 14)))).run prog w = .ok (.int .i64 x.up) w∧(Instr.loadAt 4 (.pointer (some (a.add 15)))).run prog w = .ok (.bool x.els) w)∧(∀(S:World→Prop) (w0:World),S w0→(∀w,S w→B4 k (d7 w))→(∀K f d w,B6 prog S (Instr.loadAt 3 (.pointer (some (a.add 13)))) K f d w=K (A7 f d (.int .i64 x.deep)) w)∧(∀K f d w,B6 prog S (Instr.loadAt 3 (.pointer (some (a.add 14)))) K f d w=K (A7 f d (.int .i64 x.up)) w)∧(∀K f d w,B6 prog S (Instr.loadAt 4 (.pointer (some (a.add 15)))) K f d w=K (A7 f d (.bool x.els)) w)):=by
 obtain⟨cs,rfl,he⟩:=hv;obtain⟨cs2,e2,hc⟩:=ha;obtain rfl:=ab2 e2;obtain⟨c_s,rfl,h_s⟩:=cb1 he;obtain⟨a_s0,a_s1,a_s2,a_s3,a_s4,a_s5,a_s6,a_s7,a_s8,a_s9,a_s10,a_s11,a_s12,rfl⟩:=aC7 (A3.len h_s);exact⟨_,⟨_,rfl,h_s⟩,bq0 hc (fun j u hj=>by
  match j,hj with
  | 0,hj=>exact hj
  | 1,hj=>exact hj
  | 2,hj=>exact hj
  | 3,hj=>exact hj
  | 4,hj=>exact hj
  | 5,hj=>exact hj
  | 6,hj=>exact hj
  | 7,hj=>exact hj
  | 8,hj=>exact hj
  | 9,hj=>exact hj
  | 10,hj=>exact hj
  | 11,hj=>exact hj
  | 12,hj=>exact hj
  | m+13,hj=>simp at hj),fun w hw=>⟨p8 hc (o:=13) rfl F2 w hw,p8 hc (o:=14) rfl F2 w hw,p8 hc (o:=15) rfl ah6 w hw⟩,fun S w0 hS hw=>⟨fun K f d w=>A0 hS fun w' hw'=>p8 hc (o:=13) rfl F2 w' (hw w' hw'),fun K f d w=>A0 hS fun w' hw'=>p8 hc (o:=14) rfl F2 w' (hw w' hw'),fun K f d w=>A0 hS fun w' hw'=>p8 hc (o:=15) rfl ah6 w' (hw w' hw')⟩⟩
theorem I4.im_v{h k:Hp}{a:Addr}{v:Value}{x:Im}(hv:SV h v x)(ha:I4 k a v):(∀w,B4 k (d7 w)→(Instr.loadAt 57 (.pointer (some a))).run prog w = .ok v w)∧(∀(S:World→Prop) (w0:World),S w0→(∀w,S w→B4 k (d7 w))→∀K f d w,B6 prog S (Instr.loadAt 57 (.pointer (some a))) K f d w=K (A7 f d v) w):=ha.whole hv bN5 bN9 bN7 au7
theorem cf8{h:Hp}{v:Value}{x:Im}{w:World}(N:Nat→Prop)(hv:SV h v x)(hN:∀b,N b→b<w.heap.size):∃a wz w',(Instr.alloc 57 true (.tuple #[])).run prog w = .ok (.pointer (some a)) wz∧(Instr.storeAt 57 (.pointer (some a)) v).run prog wz = .ok () w'∧o6 w w'∧I4 (B8 w' N) a v:=bC7 hv hN db0 rfl au7
mutual
def bT2:St→Int→Int→Bool→List Im
 | .mk id kind labels name proc x has args thn els,d,up,e=>⟨.mk id kind labels name proc x has args thn els,d,up,e⟩::(if d≤12 then M4 thn (d+1) id false++M4 els (d+1) id true else[])
def M4:List St→Int→Int→Bool→List Im
 | [],_,_,_=>[]
 | t::l,d,up,e=>bT2 t d up e++M4 l d up e
end
theorem cN5(t:St)(d up:Int)(e:Bool):bT2 t d up e=⟨t,d,up,e⟩::(if d≤12 then M4 t.thn (d+1) t.id false++M4 t.els (d+1) t.id true else[]):=by
 cases t;simp only[bT2,St.thn,St.els,St.id]
mutual
theorem cy0:∀(t:St) (d up:Int) (e:Bool),(bT2 t d up e).length≤U6 t
 | .mk id kind labels name proc x has args thn els,d,up,e=>by
  have h1:=al1 thn (d+1) id false;have h2:=al1 els (d+1) id true;simp only[bT2,U6];split<;>simp only[ey7,ew7,eC7]<;>omega
theorem al1:∀(l:List St) (d up:Int) (e:Bool),(M4 l d up e).length≤A5 l
 | [],_,_,_=>by simp[M4]
 | t::l,d,up,e=>by
  have h1:=cy0 t d up e;have h2:=al1 l d up e;simp only[M4,A5,ew7];omega
end
theorem cX4:ag0 prog 44=true:=by kernel_rfl
theorem dK2:E8 prog 54 57 16 232=true:=by kernel_rfl
theorem cr6{h:Hp}{v:Value}{t:St}(hv:SV h v t)(d up:Int)(e:Bool):∃u,C0 prog 57 [(0,v),(1,.int .i64 d),(2,.int .i64 up),(3,.bool e)]=some u∧SV h u (⟨t,d,up,e⟩:Im):=by
 obtain⟨cs,rfl,he⟩:=hv;have hl:cs.length=13:=A3.len he;obtain⟨a1,a2,a3,a4,a5,a6,a7,a8,a9,a10,a11,a12,a13,rfl⟩:=aC7 hl;refine⟨.agg #[a1,a2,a3,a4,a5,a6,a7,a8,a9,a10,a11,a12,a13,.int .i64 d,.int .i64 up,.bool e],?_,⟨_,rfl,⟨_,rfl,he⟩⟩⟩;simp[C0,cH6,J3,Instr.fill,Value.cells]
theorem cn5:∀(m:Nat) (l:List St) (v vo:Value) (d up:Int) (e:Bool) (xs:List Im) (h:Hp) (w:World),A5 l≤m→R h v l→A9 h w 57 vo xs→B4 h (d7 w)→xs.length+A5 l≤200→0≤d→d≤13 →
  Calls prog 44 #[v,.int .i64 d,.int .i64 up,.bool e,vo] w fun ex w'=>∃u,ex = .returned u∧(A9 h w' 57 u (xs++M4 l d up e)∧o9 (A4 vo) w w'∧E0 w vo u):=by
 intro m
 induction m using Nat.strongRecOn with
 | ind m ih=>
 intro l v vo d up e xs h w hm0 hv ho hh hl hd0 hd;refine d9 (args:=[v,.int .i64 d,.int .i64 up,.bool e,vo]) hm func44 rfl (by kernel_rfl) (by show 5≤_;decide +kernel) ?_;have hS:=hv.isS;have hn:=hv.vlen;have hll:l.length≤200:=by have:=P5 l;omega
 simp only[m8,n8,simprocAttr];refine n7 [0,1,2,3] (σ:=Nat×Value×List Im) (fun s f w'=>f 11 = .int .i64 s.1∧f 4=s.2.1∧s.1≤l.length∧A9 h w' 57 s.2.1 (xs++s.2.2)∧o9 (A4 vo) w w'∧E0 w vo s.2.1 ∧
  M4 l d up e=s.2.2++M4 (l.drop s.1) d up e∧s.2.2.length+A5 (l.drop s.1)≤A5 l) (fun s=>l.length-s.1) (0,vo,[]) (by decide +kernel) ?_ ?_
 ·simp only[p7,simprocAttr];exact⟨by trivial,by trivial,ex6 _,by simpa using ho,o9.refl _,fun b hb=>.inl hb,by simp,by simp⟩
 rintro⟨k,uL,pre⟩ f w2 hk ⟨h11,h4,hkl,ho2,hx2,hmv2,hpre,hcnt⟩;simp only at h11 h4 hkl ho2 hmv2 hpre hcnt;simp only[ew6,p7,simprocAttr]at hk;obtain⟨e0,e1,e2,e3,_⟩:=hk;have hSu:=ho2.isS;have hnu:=ho2.vlen;have hlu:(xs++pre).length≤200:=by rw[ew7];omega
 have h200:decide (((xs++pre).length:Int)≤200)=true:=by simp only[eA7];omega
 rcases ew5 (decide ((k:Int)<(l.length:Int)))with hc|hc;rotate_left
 ·simp only[m8,n8,simprocAttr,h11,h4,e0,hS,hn,hc];refine n9 results44 ?_;simp only[p7,simprocAttr];have hkl':k=l.length:=by have:=ew9 hc;omega
  rw[hkl',eF5]at hpre;simp only[M4,ez3]at hpre;exact⟨by rw[hpre];exact ho2,hx2,hmv2⟩
 have hlt:k<l.length:=by have:=ew8 hc;omega
 have hin:=hv.inS hlt;have hh2:B4 h (d7 w2):=I0 hh hx2 fun b hb=>ho.free hb;have hat:=hv.at_ (ew4 hlt);have hdrop:l.drop k=l[k]::l.drop (k+1):=eA2 hlt;generalize l[k]=t at hat hdrop;rw[hdrop]at hpre hcnt;rw[A5]at hcnt;rw[M4,cN5]at hpre;have hsz:=ao5 t;have hz13:A3.sz St=13:=rfl;rw[hz13]at hat;obtain⟨sv,hsv,ldv,_⟩:=hat.st_v;obtain⟨vl,va,vt,ve,hvl,hva,hvt,hve,hax,ldf,sdf⟩:=hat.st;obtain⟨iu,hbi,hiu⟩:=cr6 hsv d up e;have ldw:=ldv w2 hh2;obtain⟨p1,uM,w3,p2,p3,p4,p5⟩:=push (e:=54) dK2 rfl ho2 (x:=iu) (y:=⟨t,d,up,e⟩) hiu.enc (by omega) (by omega) hh2;have hx3:o9 (A4 vo) w w3:=hx2.chain p4 fun b hb hu=>(hmv2 b hu).resolve_right (by omega);have hmv3:E0 w vo uM:=fun b hb=>by
  rcases p5 b hb with h1|h1
  ·exact hmv2 b h1
  ·have:=hx2.size;right;omega
 have hh3:B4 h (d7 w3):=I0 hh2 p4 fun b hb=>ho2.free hb;have hlp:(xs++pre++[(⟨t,d,up,e⟩:Im)]).length=xs.length+pre.length+1:=by simp only[ew7,ez4]
 rcases ew5 (decide (d≤12))with h12|h12;rotate_left
 ·rw[if_neg (ew9 h12)]at hpre;simp only[m8,n8,v8,simprocAttr,h11,h4,e0,e1,e2,e3,hS,hn,hc,hSu,hnu,h200,hin,ldw,hbi,p1,p2,h12];refine⟨(k+1,uM,pre++[⟨t,d,up,e⟩]),by simp only[];omega,by simp only[];rw[B2 k (by omega)],by trivial,by simp only[];omega,by simpa using p3,hx3,hmv3,by simp only[];rw[hpre];simp,by simp only[ew7,ez4];omega⟩
 ·have hd12:d≤12:=ew8 h12;rw[if_pos hd12]at hpre;have hwd:IntKind.i64.wrap (d+1)=d+1:=K1 _ (by omega);have hh3d:=p6 hh3 (b7 (o6.drew w3));have s3:=sdf (fun w'=>o9 (A4 uM) w3.drew w') w3.drew (o9.refl _) fun w' hm=>I0 hh3d hm fun b hb=>p3.free hb;obtain⟨t0,_,_,_,_,_,_,t7,_⟩:=s3;simp only[m8,n8,v8,simprocAttr,h11,h4,e0,e1,e2,e3,hS,hn,hc,hSu,hnu,h200,hin,ldw,hbi,p1,p2,h12];refine C2 (fun w'=>o9 (A4 uM) w3.drew w') 15 (B0 [0,1,2,3,4,5,6,7,8,9,10,11,12,13,14]) (by decide +kernel) (o9.refl _) ?_;simp only[D5,B0,m8,n8,v8,simprocAttr,h11,e0,e1,hin,hwd,t0,t7];have hl4:(xs++pre++[(⟨t,d,up,e⟩:Im)]).length+A5 t.thn≤200:=by omega
  refine z6 cX4 (ih (A5 t.thn) (by omega) t.thn vt uM (d+1) t.id false (xs++pre++[⟨t,d,up,e⟩]) h w3.drew (ex9 _) hvt (by rw[ey6,←ey6];exact p3.ext (o6.drew w3)) hh3d hl4 (by omega) (by omega)) ?_;rintro u4 w4 ⟨ho4,hm4,hmv4⟩;refine⟨hm4,?_⟩;have hxd3:o9 (A4 vo) w w3.drew:=hx3.trans (o9.up (o6.drew w3));have hsz03:w.heap.size≤w3.drew.heap.size:=hxd3.size;have hx4:o9 (A4 vo) w w4:=hxd3.chain hm4 fun b hb hu=>(hmv3 b hu).resolve_right (by omega);have hmv4':E0 w vo u4:=fun b hb=>by
   rcases hmv4 b hb with h1|h1
   ·exact hmv3 b h1
   ·right;omega
  have hh4:B4 h (d7 w4):=I0 hh3d hm4 fun b hb=>p3.free hb;have hh4d:=p6 hh4 (b7 (o6.drew w4));have s4:=sdf (fun w'=>o9 (A4 u4) w4.drew w') w4.drew (o9.refl _) fun w' hm=>I0 hh4d hm fun b hb=>ho4.free hb;obtain⟨y0,_,_,_,_,_,_,_,y8⟩:=s4;have hthn:=al1 t.thn (d+1) t.id false;have hl5:(xs++pre++[(⟨t,d,up,e⟩:Im)]++M4 t.thn (d+1) t.id false).length+A5 t.els≤200:=by rw[ew7];omega
  simp only[D5,m8,simprocAttr];refine C2 (fun w'=>o9 (A4 u4) w4.drew w') 15 (B0 [0,1,2,3,4,5,6,7,8,9,10,11,12,13,14]) (by decide +kernel) (o9.refl _) ?_;simp only[D5,B0,m8,n8,v8,simprocAttr,h11,e0,e1,hin,hwd,y0,y8];refine z6 cX4 (ih (A5 t.els) (by omega) t.els ve u4 (d+1) t.id true (xs++pre++[⟨t,d,up,e⟩]++M4 t.thn (d+1) t.id false) h w4.drew (ex9 _) hve (ho4.ext (o6.drew w4)) hh4d hl5 (by omega) (by omega)) ?_;rintro u5 w5 ⟨ho5,hm5,hmv5⟩;refine⟨hm5,?_⟩;have hxd4:o9 (A4 vo) w w4.drew:=hx4.trans (o9.up (o6.drew w4));have hsz04:w.heap.size≤w4.drew.heap.size:=hxd4.size;have hx5:o9 (A4 vo) w w5:=hxd4.chain hm5 fun b hb hu=>(hmv4' b hu).resolve_right (by omega);have hmv5':E0 w vo u5:=fun b hb=>by
   rcases hmv5 b hb with h1|h1
   ·exact hmv4' b h1
   ·right;omega
  have hels:=al1 t.els (d+1) t.id true;simp only[D5,m8,n8,simprocAttr,h11];refine⟨(k+1,u5,pre++(⟨t,d,up,e⟩::(M4 t.thn (d+1) t.id false++M4 t.els (d+1) t.id true))),by simp only[];omega,by simp only[];rw[B2 k (by omega)],by trivial,by simp only[];omega,by simpa using ho5,hx5,hmv5',by simp only[];rw[hpre];simp,by simp only[ew7,ey7];omega⟩
theorem cn3(h:Hp)(v:Value)(q:Pr)(w:World)(hv:SV h v q)(hh:B4 h (d7 w))(hb:A5 q.body≤200):
  Calls prog 21 #[v] w fun ex w'=>∃u,ex = .returned u∧(A9 h w' 57 u (M4 q.body 1 0 false)∧(∀b,A4 u b→w.heap.size≤b)∧o6 w w'):=by
 refine d9 (args:=[v]) hm func21 rfl (by kernel_rfl) (by show 1≤_;decide +kernel) ?_;obtain⟨a,w1,hbx,hx1,hat⟩:=bZ9 (w:=w) (fun _=>False) hv (fun _ h=>h.elim);obtain⟨v1,v2,v3,v4,_,_,hvb,_,ld,_⟩:=I4.pr hv hat;have l1:=ld w1 (B3 _ _);simp only[m8,n8,simprocAttr,hbx,l1];refine z6 cX4 (cn5 (A5 q.body) q.body v3 (.slice none 0 0) 1 0 false [] h w1 (ex9 _) hvb (A9.nil _ _ _) (p6 hh (b7 hx1)) (by simpa using hb) (by omega) (by omega)) ?_;rintro u w2 ⟨ho,hm,hmv⟩;simp only[m8,simprocAttr];refine n9 results21 ?_;simp only[p7,simprocAttr];exact⟨by simpa using ho,fun b hb=>(hmv b hb).elim (fun h=>absurd h D0) fun h=>ex3 hx1.size h,hx1.trans (hm.weaken fun _ _ h=>absurd h D0)⟩
def stZ:St:=.mk 0 0 [] e0 e0 (.mk 0 0 e0 []) false [] [] []
def imZ:Im:=⟨stZ,0,0,false⟩
def an0(l:List Im)(id:Int):Option Im:=l.find? fun x=>decide (x.s.id=id)
def br4(p:Pg)(id:Int):Option Im:=p.procs.findSome? fun q=>an0 (M4 q.body 1 0 false) id
def ba9(p:Pg)(id:Int):St:=((br4 p id).getD imZ).s
theorem bR6{l:List Im}{id:Int}{k:Nat}(h:k<l.length)(hn:an0 (l.take k) id=none)(hd:l[k].s.id=id):an0 l id=some l[k]:=by
 have e:l=l.take k++l[k]::l.drop (k+1):=by rw[←eA2 h,ez9]
 unfold an0 at hn ⊢;generalize hx:l[k]=x at e hd;rw[e,List.find?_append,hn,List.find?_cons,eD8 hd];rfl
theorem bR5{l:List Im}{id:Int}{k:Nat}(h:k<l.length)(hn:an0 (l.take k) id=none)(hd:l[k].s.id≠id):an0 (l.take (k+1)) id=none:=by
 unfold an0 at hn ⊢;rw[ex2 h,List.find?_append,hn,List.find?_cons,eH5 hd];rfl
theorem bR4{p:Pg}{id:Int}{k:Nat}{x:Im}(h:k<p.procs.length)(hn:(p.procs.take k).findSome? (fun q=>an0 (M4 q.body 1 0 false) id)=none)(hx:an0 (M4 p.procs[k].body 1 0 false) id=some x):br4 p id=some x:=by
 have e:p.procs=p.procs.take k++p.procs[k]::p.procs.drop (k+1):=by rw[←eA2 h,ez9]
 unfold br4;generalize hy:p.procs[k]=q at e hx;rw[e,List.findSome?_append,hn,List.findSome?_cons,hx];rfl
theorem bR3{p:Pg}{id:Int}{k:Nat}(h:k<p.procs.length)(hn:(p.procs.take k).findSome? (fun q=>an0 (M4 q.body 1 0 false) id)=none)(hx:an0 (M4 p.procs[k].body 1 0 false) id=none):(p.procs.take (k+1)).findSome? (fun q=>an0 (M4 q.body 1 0 false) id)=none:=by
 rw[ex2 h,List.findSome?_append,hn,List.findSome?_cons,hx];rfl
theorem er6:ag0 prog 21=true:=by kernel_rfl
theorem cd7{P:Program}{fn:Func}{R:Value→World→Prop}{f:Fr}{w:World}{v:Value}{a t s:Nat}{ty:TypeId}{ad:Addr}(h:fn.results=#[.cell a ty,.tmp t,.tmp s])(hf:f a = .pointer (some ad))(hl:(Instr.loadAt ty (.pointer (some ad))).run P w = .ok v w)(hR:R (.tuple #[v,f t,f s]) w):bn3 P fn R .ret f w:=by
 refine⟨[v,f t,f s],?_,hR⟩;rw[h];refine⟨?_,rfl,rfl,trivial⟩;show(do loadVar ty (←asAddr (f a)):Sem Value).run P w = .ok v w;rw[hf];exact hl
def ag1:Array Value:=#[.int .i64 0,.int .i64 0,.slice none 0 0,o7 e0,o7 e0,.int .i64 0,.int .i64 0,o7 e0,.slice none 0 0,.bool false,.slice none 0 0,.slice none 0 0,.slice none 0 0,.int .i64 0,.int .i64 0,.bool false]
theorem cg1:G2 prog 57=some (.agg ag1):=db0
theorem ch9:C0 prog 57 []=some (.agg ag1):=by
 have h:=cg1
 first
 | (simp[C0,cH6,J3,Instr.fill];done)
 | rfl
theorem dg1(h:Hp):SV h (.agg ag1) imZ:=
 ⟨_,rfl,_,rfl,aT6.2 ⟨.slice none 0 0,[.int .i64 0,.int .i64 0,o7 e0,.slice none 0 0],.slice none 0 0,.slice none 0 0,.slice none 0 0,rfl,az8 _,bf9.2 ⟨_,rfl,az8 _⟩,az8 _,az8 _,az8 _⟩⟩
theorem cc0{h:Hp}{w w4 w5 w8:World}{M:Nat→Prop}(hh:B4 h (d7 w))(hsz:w.heap.size≤w4.heap.size)(hm:o9 M w5 w8)(hM:∀b,M b→b<w4.heap.size):B4 (aH6 h w4 w5) (aH6 h w w8):=fun b o e=>by
 unfold aH6 at e ⊢;split at e
 ·have hb:b<w.heap.size:=(ex0.1 (show w.heap[b]?=some o from hh b o e)).1;rw[if_pos hb];exact e
 ·have hb5:b<w5.heap.size:=(ex0.1 e).1;rw[if_neg (by omega),hm.block b hb5 fun h=>by have:=hM b h;omega];exact e
theorem cp7(h:Hp)(v:Value)(p:Pg)(id:Int)(w:World)(hv:SV h v p)(hh:B4 h (d7 w))(hb:∀q∈p.procs,A5 q.body≤200)(hpn:p.procs.length≤1000000):
  Calls prog 41 #[v,.int .i64 id] w fun ex w'=>∃u,ex = .returned u∧(∃iv nv bv,u = .tuple #[iv,nv,bv]∧SV (aH6 h w w') iv ((br4 p id).getD imZ)∧o6 w w'):=by
 refine d9 (args:=[v,.int .i64 id]) hm func41 rfl (by kernel_rfl) (by show 2≤_;decide +kernel) ?_;obtain⟨c,w1,hbx,hx1,hatp⟩:=V2 (w:=w) (fun _=>False) hv (fun _ h=>h.elim);obtain⟨vg,vp,hvg,hvp,ldp,_⟩:=I4.pg hv hatp;have hS:=hvp.isS;have hn:=hvp.vlen;have hz:=cg1;obtain⟨hal,_⟩:=aH8 (P:=prog) (w:=w1) (T:=57) hz (by rw[au7];rfl) (cs:=ag1) (by rw[au7];rfl) (by simp[ag1,o7,Value.oneCell']);have hx2:=o6.alloc w1 (.cells (Value.agg ag1).cells 57);have hc2:=eA5 w1 (.cells (Value.agg ag1).cells 57);generalize hw2:w1.alloc (.cells (Value.agg ag1).cells 57)=w2 at hal hx2 hc2;have l2:=ldp w2 (p6 (B3 _ _) (b7 hx2));have hrb:w1.heap.size<w2.heap.size:=(ex0.1 hc2).1;generalize hrbe:w1.heap.size=rb at hal hc2 hrb;simp only[m8,n8,simprocAttr,hbx,hal,l2,hS,hn];refine n7 [1,4,12,13] (σ:=Nat) (fun k f w'=>f 14 = .int .i64 k∧k≤p.procs.length∧(p.procs.take k).findSome? (fun q=>an0 (M4 q.body 1 0 false) id)=none∧o6 w2 w') (fun k=>p.procs.length-k) 0 (by decide +kernel) ?_ ?_
 ·simp only[p7,simprocAttr];exact⟨by trivial,ex6 _,by simp,o9.refl _⟩
 rintro k f w3 hk ⟨h14,hkl,hno,hx3⟩;simp only[ew6,p7,simprocAttr]at hk;obtain⟨e1,e4,e12,e13,_⟩:=hk;simp only[m8,n8,simprocAttr,h14,e13];refine i5 (fun hc=>?_) (fun hc=>?_);rotate_left
 ·have hkL:k=p.procs.length:=by simp at hc;omega
  have hc3:=(hx3.block rb hrb (fun h=>h)).trans hc2;obtain⟨w4,q1,q2,q3⟩:=ab3 (P:=prog) (T:=57) (cs:=ag1) hc3 hz (by rw[au7];rfl) (by rw[au7];rfl) (by simp[ag1,o7,Value.oneCell']);rw[hkL,ex5]at hno;simp only[m8,simprocAttr,e4,ch9,q1];refine cd7 results41 (ad:=⟨rb,0,none⟩) (by simp only[p7,simprocAttr];exact e4) (R2 q2 bN5 bN9 bN7 (by rw[au7];rfl)) ?_;refine⟨_,_,_,rfl,?_,?_⟩
  ·unfold br4;rw[hno];exact dg1 _
  ·exact o9.ext_of (hx1.trans (hx2.trans hx3)) q3 fun b hb=>by have:=hx1.size;omega
 have hlt:k<p.procs.length:=by simpa using hc
 have hh3:B4 h (d7 w3):=p6 hh (b7 (hx1.trans (hx2.trans hx3)));have hin:=hvp.inS hlt;obtain⟨sv,hsv,hld⟩:=F4 (P:=prog) (t:=51) hvp (hh3) (ew4 hlt) aj1 aj3 aj2 N0;rw[N0]at hld;have hbq:=hb _ (ex8 hlt);have hfp:=fun x=>bR4 (p:=p) (id:=id) (x:=x) hlt hno;have hfs:=bR3 hlt hno;generalize p.procs[k]=q at hsv hbq hfp hfs;have hrb3:rb<w3.heap.size:=eC4 hrb hx3.size;obtain⟨d,wz,w4,hald,hst,hx4,hat⟩:=aH0 (w:=w3) (fun b=>b=rb) hsv fun b hb=>by omega
 obtain⟨ldq,_⟩:=I4.pr_v hsv hat;have lq:=ldq w4 (B3 _ _);have hx14:=(hx2.trans hx3).trans hx4;simp only[m8,n8,v8,simprocAttr,h14,e12,hin,hld,hald,hst,lq];have hh4:B4 h (d7 w4):=p6 hh (b7 (hx1.trans hx14));refine z6 er6 (cn3 h sv q w4 hsv hh4 hbq) ?_;rintro u w5 ⟨ho,hfr,hx5⟩;have hl2:=al1 q.body 1 0 false;generalize M4 q.body 1 0 false=l at ho hfp hfs hl2;have hrb4:rb<w4.heap.size:=eC4 hrb3 hx4.size;have hR:R (aH6 h w4 w5) u l:=ho.ro (aU0 hh4) fun b hb=>bH5 (hfr b hb);have hSu:=hR.isS;have hnu:=hR.vlen;simp only[m8,n8,simprocAttr,hSu,hnu];refine n7 [1,4,8,12,13,14,19,20] (σ:=Nat) (fun j f w'=>f 21 = .int .i64 j∧j≤l.length∧an0 (l.take j) id=none∧o6 w5 w') (fun j=>l.length-j) 0 (by decide +kernel) ?_ ?_
 ·simp only[p7,simprocAttr];exact⟨by trivial,ex6 _,rfl,o9.refl _⟩
 rintro j f2 w6 hk ⟨h21,hjl,hnj,hx6⟩;simp only[ew6,p7,simprocAttr]at hk;obtain⟨g1,g4,g8,g12,g13,g14,g19,g20,_⟩:=hk;rw[e1]at g1;rw[e4]at g4;rw[e12]at g12;rw[e13]at g13;rw[h14]at g14;have hll:l.length≤1000000000:=by omega
 simp only[m8,n8,simprocAttr,h21,g20];refine i5 (fun hc=>?_) (fun hc=>?_);rotate_left
 ·have hjL:j=l.length:=by simp at hc;omega
  rw[hjL,ex5]at hnj;simp only[m8,n8,simprocAttr,g14];exact⟨k+1,by omega,by rw[B2 k (by omega)],by omega,hfs hnj,hx3.trans (hx4.trans (hx5.trans hx6))⟩
 have hltj:j<l.length:=by simpa using hc
 have hsv0:=hsv;clear hsv hin hld;have hin:=hR.inS hltj;obtain⟨sv,hsv,hld⟩:=F4 (P:=prog) (t:=57) hR (p6 (by9 hh4 hx5) (b7 hx6)) (ew4 hltj) bN5 bN9 bN7 au7;rw[au7]at hld;have hft:=bR6 (id:=id) hltj hnj;have hfj:=bR5 (id:=id) hltj hnj;generalize l[j]=x at hsv hft hfj;have hsv2:=hsv;have hrb6:rb<w6.heap.size:=by have:=hx4.size;have:=hx5.size;have:=hx6.size;omega
 obtain⟨d2,wz2,w7,hal2,hst2,hx7,hat2⟩:=cf8 (w:=w6) (fun b=>b=rb) hsv2 fun b hb=>by omega
 obtain⟨us,hus,hats,_,_⟩:=I4.im hsv2 hat2;obtain⟨_,_,_,_,_,_,_,_,_,_,_,ldid,_⟩:=I4.st hus hats;have l7:=(ldid w7 (B3 _ _)).1;rcases ew5 (decide (x.s.id=id))with hd|hd;rotate_left
 ·simp only[m8,n8,v8,simprocAttr,h21,g19,hin,hld,hal2,hst2,l7,g1,hd];exact⟨j+1,by omega,by rw[B2 j (by omega)],by omega,hfj (ew9 hd),hx6.trans hx7⟩
 ·simp only[m8,n8,v8,simprocAttr,h21,g19,hin,hld,hal2,hst2,l7,g1,hd];have hx37:o6 w4 w7.drew:=hx5.trans (hx6.trans (hx7.trans (o6.drew w7)));have hc7:=(((hx3.trans hx4).trans hx37).block rb hrb (fun h=>h)).trans hc2;obtain⟨_,_,_,_,_,_,_,_,_,sdq⟩:=I4.pr hsv0 hat;obtain⟨_,sdi⟩:=I4.im_v hsv2 hat2;have s1:=sdq (fun w'=>o9 (fun b=>b=rb) w7.drew w') w7.drew (o9.refl _) fun w' hm=>C9 ((o9.up hx37).trans hm);have s2:=sdi (fun w'=>o9 (fun b=>b=rb) w7.drew w') w7.drew (o9.refl _) fun w' hm=>C9 ((o9.up (o6.drew w7)).trans hm);refine C2 (fun w'=>o9 (fun b=>b=rb) w7.drew w') 6 (B0 [0,1,2,3,4,5]) (by decide +kernel) (o9.refl _) ?_;obtain⟨cs,rfl,he⟩:=hsv2;have hcl:cs.length=16:=A3.len he;obtain⟨w8,q1,q2,q3⟩:=ab3 (P:=prog) (T:=57) (cs:=cs.toArray) hc7 hz (by rw[au7];rfl) (by rw[au7];simpa using hcl) (fun u hu=>A3.one he u (by simpa using hu));simp only[D5,B0,m8,n8,simprocAttr,g8,g4,s1,s2,q1,F6];refine⟨q3,?_⟩;refine cd7 results41 (ad:=⟨rb,0,none⟩) (by simp only[p7,simprocAttr];exact g4) (R2 q2 bN5 bN9 bN7 (by rw[au7];simpa using hcl.symm)) ?_;have hx7f:o6 w5 w7.drew:=hx6.trans (hx7.trans (o6.drew w7));refine⟨_,_,_,rfl,?_,?_⟩
  ·rw[hfp _ (hft (ew8 hd))];exact⟨cs,rfl,A3.mono (cc0 hh (hx1.trans hx14).size ((o9.up hx7f).trans q3) fun b hb=>by omega) he⟩
  ·exact o9.ext_of (hx1.trans (hx2.trans ((hx3.trans hx4).trans hx37))) q3 fun b hb=>by have:=hx1.size;omega
theorem es5:ag0 prog 41=true:=by kernel_rfl
def aG5:Array Value:=#[.int .i64 0,.int .i64 0,.slice none 0 0,o7 e0,o7 e0,.int .i64 0,.int .i64 0,o7 e0,.slice none 0 0,.bool false,.slice none 0 0,.slice none 0 0,.slice none 0 0]
theorem cW5:G2 prog 45=some (.agg aG5):=cf3
theorem bF8{h:Hp}{v:Value}{s:St}(hv:SV h v s):aB5 prog 45 1 v=some (.int .i64 s.kind):=by
 obtain⟨cs,rfl,he⟩:=hv;obtain⟨vl,cx,va,vt,ve,rfl,_⟩:=aT6.1 he;have h1:y5 prog 45 1=some (1,3):=by kernel_rfl
 have h2:C1 prog 3=false:=by kernel_rfl
 simp[aB5,h1,bu4,h2]
theorem bD9(v:Value)(p:Pg)(id:Int)(w:World)(hv:SV (d7 w) v p)(hb:∀q∈p.procs,A5 q.body≤200)(hpn:p.procs.length≤1000000):
  Calls prog 16 #[v,.int .i64 id] w fun ex w'=>∃u,ex = .returned u∧(SV (d7 w') u (ba9 p id)∧o6 w w'):=by
 refine d9 (args:=[v,.int .i64 id]) hm func16 rfl (by kernel_rfl) (by show 2≤_;decide +kernel) ?_;obtain⟨c,w1,hbx,hx1,hatp⟩:=V2 (w:=w) (fun _=>False) hv (fun _ h=>h.elim);have ldp:=(I4.pg_v hv hatp).1;have hz:=cW5;obtain⟨hal,_⟩:=aH8 (P:=prog) (w:=w1) (T:=45) hz (by rw[W9];rfl) (cs:=aG5) (by rw[W9];rfl) (by simp[aG5,o7,Value.oneCell']);have hx2:=o6.alloc w1 (.cells (Value.agg aG5).cells 45);have hc2:=eA5 w1 (.cells (Value.agg aG5).cells 45);generalize hw2:w1.alloc (.cells (Value.agg aG5).cells 45)=w2 at hal hx2 hc2;have l2:=ldp w2 (p6 (B3 _ _) (b7 hx2));have hrb:w1.heap.size<w2.heap.size:=(ex0.1 hc2).1;have hsz1:=hx1.size;generalize hrbe:w1.heap.size=rb at hal hc2 hrb hsz1;simp only[m8,n8,simprocAttr,hbx,hal,l2];refine z6 es5 (cp7 (d7 w) v p id w2 hv (b7 (hx1.trans hx2)) hb hpn) ?_;rintro _ w3 ⟨iv,nv,bv,rfl,hsv,hx3⟩;have hrb3:rb<w3.heap.size:=eC4 hrb hx3.size;obtain⟨d,wz,w4,hald,hst,hx4,hat⟩:=cf8 (w:=w3) (fun b=>b=rb) hsv fun b hb=>by omega
 obtain⟨us,hus,hats,_,_⟩:=I4.im hsv hat;have l4:=(I4.st_v hus hats).1 w4 (B3 _ _);have hx24:=hx3.trans hx4;have hc4:=(hx24.block rb hrb (fun h=>h)).trans hc2;obtain⟨cs,rfl,he⟩:=hus;have hcl:cs.length=13:=A3.len he;obtain⟨w5,q1,q2,q3⟩:=ab3 (P:=prog) (T:=45) (cs:=cs.toArray) hc4 hz (by rw[W9];rfl) (by rw[W9];simpa using hcl) (fun u hu=>A3.one he u (by simpa using hu));have hx05:o6 w w5:=o9.ext_of (hx1.trans (hx2.trans hx24)) q3 fun b hb=>by omega
 simp only[m8,n8,simprocAttr,hald,hst,l4,q1];refine L0 results16 (ad:=⟨rb,0,none⟩) (by simp only[p7,simprocAttr]) (R2 q2 aR4 aR7 aI9 (by rw[W9];simpa using hcl.symm)) ?_;refine⟨⟨cs,rfl,A3.mono ?_ he⟩,hx05⟩;exact p6 (cc0 (i4 _) (hx1.trans hx2).size ((o9.up hx4).trans q3) fun b hb=>by omega) (by9 (i4 _) hx05)
theorem cx4:ag0 prog 32=true:=by kernel_rfl
theorem br9:ag0 prog 33=true:=by kernel_rfl
theorem bH6:ag0 prog 34=true:=by kernel_rfl
theorem cX6:ag0 prog 52=true:=by kernel_rfl
def J6(n:Nat):Int:=((min n 20001:Nat):Int)
theorem cL4(n:Nat):0≤J6 n∧J6 n≤20001:=by unfold J6;omega
theorem am6{n:Nat}(h:J6 n≤20000):J6 n=(n:Int)∧n≤20000:=by unfold J6 at *;omega
theorem ad5{n m:Nat}(h:¬J6 n≤20000)(hm:n≤m):J6 m=20001∧J6 n=20001:=by unfold J6 at *;omega
def F1{α:Type}(f:α→Nat)(l:List α):Nat:=(l.map f).sum
section
variable {α:Type} {f:α→Nat}
theorem af2{l:List α}{k:Nat}(hk:k<l.length):F1 f (l.take (k+1))=F1 f (l.take k)+f l[k]:=by
 unfold F1;rw[ex2 hk,ez5,List.sum_append];simp only[eB1,List.map_nil,eG8,List.sum_nil];omega
theorem au4(l:List α)(k:Nat):F1 f (l.take k)≤F1 f l:=by
 unfold F1
 conv=>rhs;rw[←ez9 k l]
 rw[ez5,List.sum_append];omega
theorem af1(h:∀x,1≤f x):∀(l:List α),l.length≤F1 f l
 | []=>by simp
 | x::l=>by
  have:=af1 h l;have:=h x;unfold F1 at *;simp only[eB1,eG8,ey7];omega
end
theorem bO6:∀l:List A6,au9 l=F1 wtT l
 | []=>rfl
 | s::l=>by rw[au9,bO6 l];rfl
theorem bw5:∀l:List Ex,ap2 l=F1 R0 l
 | []=>rfl
 | s::l=>by rw[ap2,bw5 l];rfl
theorem bw3:∀l:List Ar,Y7 l=F1 ai3 l
 | []=>rfl
 | s::l=>by rw[Y7,bw3 l];rfl
theorem aX2:∀l:List St,G5 l=F1 O0 l
 | []=>rfl
 | s::l=>by rw[G5,aX2 l];rfl
theorem bw6:∀l:List Pa,bn1 l=F1 (fun a=>wtT a.name) l
 | []=>rfl
 | s::l=>by rw[bn1,bw6 l];rfl
theorem bw7:∀l:List Pr,az6 l=F1 T3 l
 | []=>rfl
 | s::l=>by rw[az6,bw7 l];rfl
theorem aH2(s:A6):1≤wtT s:=by unfold wtT;omega
theorem cJ3(a:Ar):1≤ai3 a:=by unfold ai3;have:=aH2 a.name;omega
theorem cJ4(f:Pr):1≤T3 f:=by unfold T3;have:=aH2 f.name;omega
theorem P7(s:A6)(n:Nat)(w:World):Calls prog 33 #[o7 s,.int .i64 (J6 n)] w fun e w'=>∃u,e = .returned u∧(u = .int .i64 (J6 (n+wtT s))∧w'=w):=by
 refine d9 (args:=[o7 s,.int .i64 (J6 n)]) hm func33 rfl (by kernel_rfl) (by show 2≤_;decide +kernel) ?_;have hls:O8 prog 9 (o7 s)=some (.int .i64 (s.b.length:Nat)):=dG8 (by kernel_rfl) (by kernel_rfl);have hr:=cL4 n;have hw:wtT s=1+s.b.length:=rfl;rcases ew5 (decide (20000<J6 n))with h1|h1
 ·have h1':=ew8 h1;simp only[m8,n8,simprocAttr,h1];refine n9 results33 ?_;simp only[p7,simprocAttr];exact⟨by rw[(ad5 (by omega) (by omega:n≤n+wtT s)).1],by trivial⟩
 have h1':=ew9 h1;obtain⟨e1,hn⟩:=am6 (n:=n) (by omega);have hw1:IntKind.i64.wrap (20000-J6 n)=20000-J6 n:=K1 _ (by omega);generalize hL:((s.b.length:Nat):Int)=L at hls;rcases ew5 (decide (20000-J6 n≤L))with h2|h2
 ·have h2':=ew8 h2;simp only[m8,n8,simprocAttr,h1,hls,hw1,h2];refine n9 results33 ?_;simp only[p7,simprocAttr];have:J6 (n+wtT s)=20001:=by unfold J6 at *;omega
  exact⟨by rw[this],by trivial⟩
 have h2':=ew9 h2;have hw2:IntKind.i64.wrap (J6 n+1)=J6 n+1:=K1 _ (by omega);have hw3:IntKind.i64.wrap (J6 n+1+L)=J6 n+1+L:=K1 _ (by omega);simp only[m8,n8,simprocAttr,h1,hls,hw1,h2,hw2,hw3];refine n9 results33 ?_;simp only[p7,simprocAttr];have:J6 (n+wtT s)=J6 n+1+L:=by unfold J6 at *;omega
 exact⟨by rw[this],by trivial⟩
theorem ad0(v:Value)(l:List A6)(n:Nat)(w:World)(hv:R (d7 w) v l):Calls prog 32 #[v,.int .i64 (J6 n)] w fun e w'=>∃u,e = .returned u∧(u = .int .i64 (J6 (n+au9 l))∧w'=w):=by
 refine d9 (args:=[v,.int .i64 (J6 n)]) hm func32 rfl (by kernel_rfl) (by show 2≤_;decide +kernel) ?_;have hS:=hv.isS;have hn:=hv.vlen;rw[bO6];simp only[m8,n8,simprocAttr];refine n7 [0] (σ:=Nat) (fun i f w'=>f 5 = .int .i64 i∧f 1 = .int .i64 (J6 (n+F1 wtT (l.take i)))∧i≤l.length∧w'=w) (fun i=>l.length-i) 0 (by decide +kernel) ?_ ?_
 ·simp only[p7,simprocAttr];exact⟨by trivial,by simp[F1],ex6 _,by trivial⟩
 rintro i f w2 hk ⟨h5,h1,hil,rfl⟩;simp only[ew6,p7,simprocAttr]at hk;obtain⟨e0,_⟩:=hk;rcases ew5 (decide ((i:Int)<(l.length:Int)))with hc|hc;rotate_left
 ·have hge:i=l.length:=by have:=ew9 hc;omega
  subst hge;rw[ex5]at h1;simp only[m8,n8,simprocAttr,h5,e0,hS,hn,hc,h1];refine n9 results32 ?_;simp only[p7,simprocAttr];exact⟨by trivial,by trivial⟩
 have hlt:i<l.length:=by have:=ew8 hc;omega
 have hle1:=au4 (f:=wtT) l i;have hin:=hv.inS hlt;have hld:=ldS hv (i4 _) hlt;have htk:=af2 (f:=wtT) hlt;have hsl:=af1 aH2 (l.take i);rw[ex4]at hsl;generalize l[i]=s at hld htk;generalize F1 wtT (l.take i)=S at h1 htk hle1 hsl;rcases ew5 (decide (J6 (n+S)≤20000))with h2|h2;rotate_left
 ·have h2':=ew9 h2;have e:=ad5 (m:=n+F1 wtT l) h2' (by omega);simp only[m8,n8,simprocAttr,h5,e0,hS,hn,hc,h1,h2];refine n9 results32 ?_;simp only[p7,simprocAttr];exact⟨by rw[e.1,e.2],by trivial⟩
 obtain⟨_,hlow⟩:=am6 (ew8 h2);simp only[m8,n8,v8,simprocAttr,h5,e0,hS,hn,hc,h1,h2,hin,hld];refine D1 br9 (P7 s (n+S) _) ?_;simp only[m8,n8,simprocAttr,h5];exact⟨i+1,by omega,by rw[B2 i (by omega)],by rw[htk,←eF8],by omega,by trivial⟩
theorem aJ1:∀(m:Nat) (x:Ex) (v:Value) (n:Nat) (w:World),R0 x≤m→SV (d7 w) v x →
  Calls prog 52 #[v,.int .i64 (J6 n)] w fun e w'=>∃u,e = .returned u∧(u = .int .i64 (J6 (n+R0 x))∧o6 w w'):=by
 intro m
 induction m using Nat.strongRecOn with
 | ind m ih=>
 intro x v n w hsm hv;refine d9 (args:=[v,.int .i64 (J6 n)]) hm func52 rfl (by kernel_rfl) (by show 2≤_;decide +kernel) ?_;have hwx:=bD1 x;rw[bw5]at hwx;have hkm:∀y∈x.kids,R0 y<R0 x:=fun y hy=>by
  have h1:=aX1 hy;have h2:=bD1 x;have h3:=aH2 x.name;omega
 rw[hwx];obtain⟨a,w1,hbx,hx1,hat⟩:=aE6 hv (i4 _);obtain⟨vk,hk0,ld,_⟩:=hat.ex;have hSk:=hk0.isS;have hnk:=hk0.vlen;have l1:=ld w1 (i4 _);simp only[m8,n8,simprocAttr,hbx,l1];refine D1 br9 (P7 x.name n w1) ?_;generalize hN:n+wtT x.name=N;rw[show n+(wtT x.name+F1 R0 x.kids)=N+F1 R0 x.kids by omega];generalize x.kids=l at hk0 hnk hkm;simp only[m8,simprocAttr];refine n7 [2] (σ:=Nat) (fun i f w'=>f 5 = .int .i64 i∧f 1 = .int .i64 (J6 (N+F1 R0 (l.take i)))∧i≤l.length∧o6 w1 w') (fun i=>l.length-i) 0 (by decide +kernel) ?_ ?_
 ·simp only[p7,simprocAttr];exact⟨by trivial,by simp[F1],ex6 _,o9.refl _⟩
 rintro i f w2 hk ⟨h5,h1,hil,hx2⟩;simp only[ew6,p7,simprocAttr]at hk;obtain⟨e2,_⟩:=hk;have l2:=ld w2 (b7 hx2);rcases ew5 (decide ((i:Int)<(l.length:Int)))with hc|hc;rotate_left
 ·have hge:i=l.length:=by have:=ew9 hc;omega
  subst hge;rw[ex5]at h1;simp only[m8,n8,simprocAttr,h5,e2,l2,hSk,hnk,hc,h1];refine n9 results52 ?_;simp only[p7,simprocAttr];exact⟨by trivial,hx1.trans hx2⟩
 have hlt:i<l.length:=by have:=ew8 hc;omega
 have hle1:=au4 (f:=R0) l i;have htk:=af2 (f:=R0) hlt;have hsl:=af1 aE3 (l.take i);rw[ex4]at hsl;have hin:=hk0.inS hlt;obtain⟨sv,hsv,hld⟩:=F4 (P:=prog) (t:=41) hk0 (b7 hx2) (ew4 hlt) bl8 bm5 bm1 ao9;rw[ao9]at hld;have hkl:=hkm _ (ex8 hlt);generalize l[i]=y at hsv htk hkl;generalize F1 R0 (l.take i)=S at h1 htk hle1 hsl;rcases ew5 (decide (J6 (N+S)≤20000))with h2|h2;rotate_left
 ·have h2':=ew9 h2;have e:=ad5 (m:=N+F1 R0 l) h2' (by omega);simp only[m8,n8,simprocAttr,h5,e2,l2,hSk,hnk,hc,h1,h2];refine n9 results52 ?_;simp only[p7,simprocAttr];exact⟨by rw[e.1,e.2],hx1.trans hx2⟩
 obtain⟨_,hlow⟩:=am6 (ew8 h2);simp only[m8,n8,v8,simprocAttr,h5,e2,l2,hSk,hnk,hc,h1,h2,hin,hld];refine B7 cX6 (ih (R0 y) (by omega) y sv (N+S) w2 (ex9 _) (hsv.mono (b7 hx2))) (fun w3 hx3=>?_);simp only[m8,n8,simprocAttr,h5];exact⟨i+1,by omega,by rw[B2 i (by omega)],by rw[htk,←eF8],by omega,hx2.trans hx3⟩
theorem aE2:∀(m:Nat) (l:List St) (v:Value) (n:Nat) (w:World),G5 l≤m→R (d7 w) v l →
  Calls prog 34 #[v,.int .i64 (J6 n)] w fun e w'=>∃u,e = .returned u∧(u = .int .i64 (J6 (n+G5 l))∧o6 w w'):=by
 intro m
 induction m using Nat.strongRecOn with
 | ind m ih=>
 intro l v n w hsm hv;refine d9 (args:=[v,.int .i64 (J6 n)]) hm func34 rfl (by kernel_rfl) (by show 2≤_;decide +kernel) ?_;have hsub:∀t∈l,G5 t.thn<G5 l∧G5 t.els<G5 l:=fun t ht=>by
  have h1:=af7 ht;have h2:=P4 t;have h3:=aH2 t.name;omega
 have hS:=hv.isS;have hn:=hv.vlen;rw[aX2]at hsm ⊢;rw[aX2 l]at hsub;simp only[m8,n8,simprocAttr];refine n7 [0] (σ:=Nat) (fun i f w'=>f 5 = .int .i64 i∧f 1 = .int .i64 (J6 (n+F1 O0 (l.take i)))∧i≤l.length∧o6 w w') (fun i=>l.length-i) 0 (by decide +kernel) ?_ ?_
 ·simp only[p7,simprocAttr];exact⟨by trivial,by simp[F1],ex6 _,o9.refl _⟩
 rintro i f w2 hk ⟨h5,h1,hil,hx2⟩;simp only[ew6,p7,simprocAttr]at hk;obtain⟨e0,_⟩:=hk;rcases ew5 (decide ((i:Int)<(l.length:Int)))with hc|hc;rotate_left
 ·have hge:i=l.length:=by have:=ew9 hc;omega
  subst hge;rw[ex5]at h1;simp only[m8,n8,simprocAttr,h5,e0,hS,hn,hc,h1];refine n9 results34 ?_;simp only[p7,simprocAttr];exact⟨by trivial,hx2⟩
 have hlt:i<l.length:=by have:=ew8 hc;omega
 have hle1:=au4 (f:=O0) l i;have htk:=af2 (f:=O0) hlt;have hsl:=af1 (f:=O0) (fun t=>by have:=bO5 t;omega) (l.take i);rw[ex4]at hsl;have hin:=hv.inS hlt;obtain⟨sv,hsv,hld⟩:=F4 (P:=prog) (t:=45) hv (b7 hx2) (ew4 hlt) aR4 aR7 aI9 W9;rw[W9]at hld;obtain⟨hs1,hs2⟩:=hsub _ (ex8 hlt);generalize l[i]=t at hsv htk hs1 hs2;generalize F1 O0 (l.take i)=S at h1 htk hle1 hsl;rcases ew5 (decide (J6 (n+S)≤20000))with h2|h2;rotate_left
 ·have h2':=ew9 h2;have e:=ad5 (m:=n+F1 O0 l) h2' (by omega);simp only[m8,n8,simprocAttr,h5,e0,hS,hn,hc,h1,h2];refine n9 results34 ?_;simp only[p7,simprocAttr];exact⟨by rw[e.1,e.2],hx2⟩
 obtain⟨_,hlow⟩:=am6 (ew8 h2);obtain⟨d,wz,w3,hal,hst,hx3,hat⟩:=aS1 (hsv.mono (b7 hx2)) (i4 _);have hx23:=hx2.trans hx3;obtain⟨vl,va,vt,ve,hl',hra,hth,hel,hatx,ldd,sdd⟩:=hat.st;obtain⟨sx,hsx,_,sdx⟩:=hatx.ex_v;have hwt:=P4 t;have t1:=sdd (fun w'=>o6 w3.drew w') w3.drew (o9.refl _) fun w' h=>b7 ((o6.drew w3).trans h);have t2:=sdx (fun w'=>o6 w3.drew w') w3.drew (o9.refl _) fun w' h=>b7 ((o6.drew w3).trans h);simp only[m8,n8,v8,simprocAttr,h5,e0,hS,hn,hc,h1,h2,hin,hld,hal,hst];refine C2 (fun w'=>o6 w3.drew w') 14 (B0 [0,1,2,3,4,5,6,7,8,9,10,11,12,13]) (by decide +kernel) (o9.refl _) ?_;simp only[D5,B0,m8,n8,simprocAttr,t1,t2,h1];refine B7 cX6 (aJ1 (R0 t.x) t.x sx (n+S) w3.drew (ex9 _) (hsx.mono (b7 (o6.drew w3)))) (fun w4 hx4=>⟨hx4,?_⟩);simp only[D5,m8,simprocAttr];refine D1 cx4 (ad0 vl t.labels (n+S+R0 t.x) w4 (A3.mono (b7 ((o6.drew w3).trans hx4)) hl')) ⟨hx4,?_⟩;simp only[D5,m8,simprocAttr];refine D1 br9 (P7 t.name (n+S+R0 t.x+au9 t.labels) w4) ⟨hx4,?_⟩;simp only[D5,m8,simprocAttr];refine D1 br9 (P7 t.proc (n+S+R0 t.x+au9 t.labels+wtT t.name) w4) ⟨hx4,?_⟩;generalize hB:n+S+R0 t.x+au9 t.labels+wtT t.name+wtT t.proc=B;have hx34:=(o6.drew w3).trans hx4;have hSa:=hra.isS;have hna:=hra.vlen;have hB2:n+F1 O0 (l.take (i+1))=B+F1 ai3 t.args+G5 t.thn+G5 t.els:=by rw[htk,hwt,←bw3,←hB];omega
 generalize t.args=ags at hra hna hB2;simp only[D5,m8,simprocAttr];refine n7 [0,5,6] (σ:=Nat) (fun k f' w'=>f' 7 = .int .i64 k∧f' 1 = .int .i64 (J6 (B+F1 ai3 (ags.take k)))∧k≤ags.length∧o6 w3 w') (fun k=>ags.length-k) 0 (by decide +kernel) ?_ ?_
 ·simp only[p7,simprocAttr];exact⟨by trivial,by simp[F1],ex6 _,hx34⟩
 rintro k f2 w5 hk ⟨h7,h1',hkl,hx5⟩;simp only[ew6,p7,simprocAttr]at hk;obtain⟨g0,g5,g6,_⟩:=hk;rw[e0]at g0;have l5:=ldd w5 (b7 hx5);have hx25:=hx23.trans hx5;have hle2:=au4 (f:=ai3) ags k;have hx5d:=hx5.trans (o6.drew w5);have t3:=sdd (fun w'=>o6 w5.drew w') w5.drew (o9.refl _) fun w' h=>b7 (hx5d.trans h);rcases ew5 (decide ((k:Int)<(ags.length:Int))&&decide (J6 (B+F1 ai3 (ags.take k))≤20000))with hg|hg;rotate_left
 ·have hend:J6 (B+F1 ai3 (ags.take k))=J6 (B+F1 ai3 ags):=by
   rcases ew5 (decide ((k:Int)<(ags.length:Int)))with h3|h3
   ·rw[h3,eG4]at hg;have e:=ad5 (m:=B+F1 ai3 ags) (ew9 hg) (by omega);rw[e.1,e.2]
   ·have hge:k=ags.length:=by have:=ew9 h3;omega
    rw[hge,ex5]
  rw[hend]at h1';rcases ew5 (decide ((k:Int)<(ags.length:Int)))with h3|h3
  ·rw[h3,eG4,hend]at hg;simp only[m8,n8,simprocAttr,h7,g6,l5,hSa,hna,h3,hg,h1'];refine C2 (fun w'=>o6 w5.drew w') 8 (B0 [0,1,2,3,4,5,6,7]) (by decide +kernel) (o9.refl _) ?_;simp only[D5,B0,m8,n8,simprocAttr,g6,t3,h1'];refine B7 bH6 (ih (G5 t.thn) (by omega) t.thn vt (B+F1 ai3 ags) w5.drew (ex9 _) (A3.mono (b7 hx5d) hth)) (fun w6 hx6=>⟨hx6,?_⟩);simp only[D5,m8,simprocAttr];refine B7 bH6 (ih (G5 t.els) (by omega) t.els ve (B+F1 ai3 ags+G5 t.thn) w6 (ex9 _) (A3.mono (b7 (hx5d.trans hx6)) hel)) (fun w7 hx7=>⟨hx6.trans hx7,?_⟩);simp only[D5,m8,simprocAttr];simp only[m8,n8,simprocAttr,g5,h5];exact⟨i+1,by omega,by rw[B2 i (by omega)],by rw[hB2],by omega,hx25.trans ((o6.drew w5).trans (hx6.trans hx7))⟩
  ·simp only[m8,n8,simprocAttr,h7,g6,l5,hSa,hna,h3];refine C2 (fun w'=>o6 w5.drew w') 8 (B0 [0,1,2,3,4,5,6,7]) (by decide +kernel) (o9.refl _) ?_;simp only[D5,B0,m8,n8,simprocAttr,g6,t3,h1'];refine B7 bH6 (ih (G5 t.thn) (by omega) t.thn vt (B+F1 ai3 ags) w5.drew (ex9 _) (A3.mono (b7 hx5d) hth)) (fun w6 hx6=>⟨hx6,?_⟩);simp only[D5,m8,simprocAttr];refine B7 bH6 (ih (G5 t.els) (by omega) t.els ve (B+F1 ai3 ags+G5 t.thn) w6 (ex9 _) (A3.mono (b7 (hx5d.trans hx6)) hel)) (fun w7 hx7=>⟨hx6.trans hx7,?_⟩);simp only[D5,m8,simprocAttr];simp only[m8,n8,simprocAttr,g5,h5];exact⟨i+1,by omega,by rw[B2 i (by omega)],by rw[hB2],by omega,hx25.trans ((o6.drew w5).trans (hx6.trans hx7))⟩
 rw[ey9]at hg;have hlt2:k<ags.length:=by have:=ew8 hg.1;omega
 obtain⟨_,hlow2⟩:=am6 (ew8 hg.2);have htk2:=af2 (f:=ai3) hlt2;have hsl2:=af1 cJ3 (ags.take k);rw[ex4]at hsl2;have hina:=hra.inS hlt2;have hata:=hra.at_ (i:=k) (x:=ags[k]) (ew4 hlt2);have hz6:A3.sz Ar=6:=rfl;rw[hz6]at hata;obtain⟨hagx,_,sdg⟩:=hata.ar;obtain⟨sa,hsa,_,sda⟩:=hagx.ex_v;have t4:=sdg (fun w'=>o6 w5.drew w') w5.drew (o9.refl _) fun w' h=>b7 (hx5d.trans h);have t5:=sda (fun w'=>o6 w5.drew w') w5.drew (o9.refl _) fun w' h=>b7 (hx5d.trans h);generalize ags[k]=ag at htk2 hsa t4;generalize F1 ai3 (ags.take k)=S2 at h1' htk2 hlow2 hsl2 hg;have hg1:=hg.1;have hg2:=hg.2;simp only[m8,n8,simprocAttr,h7,g6,l5,hSa,hna,hg1,hg2,h1'];refine C2 (fun w'=>o6 w5.drew w') 16 (B0 [0,1,2,3,4,5,6,7,8,9,10,11,12,13,14,15]) (by decide +kernel) (o9.refl _) ?_;simp only[D5,B0,m8,n8,v8,simprocAttr,g6,h7,t3,t4,t5,hina,h1'];refine B7 cX6 (aJ1 (R0 ag.x) ag.x sa (B+S2) w5.drew (ex9 _) (hsa.mono (b7 hx5d))) (fun w6 hx6=>⟨hx6,?_⟩);simp only[D5,m8,simprocAttr];refine D1 br9 (P7 ag.name (B+S2+R0 ag.x) w6) ⟨hx6,?_⟩;simp only[D5,m8,simprocAttr];simp only[m8,n8,simprocAttr,h7];exact⟨k+1,by omega,by rw[B2 k (by omega)],by rw[htk2];unfold ai3;rw[←eF8,←eF8],by omega,hx5.trans ((o6.drew w5).trans hx6)⟩
theorem cp8(v:Value)(p:Pg)(w:World)(hv:SV (d7 w) v p):Calls prog 8 #[v] w fun e w'=>∃u,e = .returned u∧(u = .bool (decide (D6 p≤20000))∧o6 w w'):=by
 refine d9 (args:=[v]) hm func8 rfl (by kernel_rfl) (by show 1≤_;decide +kernel) ?_;obtain⟨c,w1,hbx,hx1,hatp⟩:=R3 hv (i4 _);obtain⟨vg,vp,hvg,hvp,ldp,_⟩:=hatp.pg;have l1:=ldp w1 (i4 _);have hSp:=hvp.isS;have hnp:=hvp.vlen;have hres:∀m:Nat,J6 m=J6 (D6 p)→decide (J6 m≤20000)=decide (D6 p≤20000):=fun m e=>by
  rw[e,eB0];unfold J6;omega
 have hwp:D6 p=au9 p.globals+F1 T3 p.procs:=by unfold D6;rw[bw7]
 simp only[m8,n8,simprocAttr,hbx,l1];have h00:Value.int IntKind.i64 0 = .int .i64 (J6 0):=rfl;rw[h00];refine D1 cx4 (ad0 vg p.globals 0 w1 hvg) ?_;rw[ez8];generalize au9 p.globals=G at hwp;generalize p.procs=l at hvp hnp hwp;rw[hwp]at hres ⊢;simp only[m8,simprocAttr];refine n7 [1] (σ:=Nat) (fun i f w'=>f 4 = .int .i64 i∧f 3 = .int .i64 (J6 (G+F1 T3 (l.take i)))∧i≤l.length∧o6 w1 w') (fun i=>l.length-i) 0 (by decide +kernel) ?_ ?_
 ·simp only[p7,simprocAttr];exact⟨by trivial,by simp[F1],ex6 _,o9.refl _⟩
 rintro i f w2 hk ⟨h4,h3,hil,hx2⟩;simp only[ew6,p7,simprocAttr]at hk;obtain⟨e1,_⟩:=hk;have l2:=ldp w2 (b7 hx2);rcases ew5 (decide ((i:Int)<(l.length:Int)))with hc|hc;rotate_left
 ·have hge:i=l.length:=by have:=ew9 hc;omega
  subst hge;rw[ex5]at h3;have hr:=hres _ rfl;simp only[m8,n8,simprocAttr,h4,e1,l2,hSp,hnp,hc,h3,hr];refine n9 results8 ?_;simp only[p7,simprocAttr];exact⟨by trivial,hx1.trans hx2⟩
 have hlt:i<l.length:=by have:=ew8 hc;omega
 have hle1:=au4 (f:=T3) l i;have htk:=af2 (f:=T3) hlt;have hsl:=af1 cJ4 (l.take i);rw[ex4]at hsl;rcases ew5 (decide (J6 (G+F1 T3 (l.take i))≤20000))with h2|h2;rotate_left
 ·have h2':=ew9 h2;have e:=ad5 (m:=G+F1 T3 l) h2' (by omega);have hr:=hres _ (by rw[e.1,e.2]:J6 (G+F1 T3 (l.take i))=J6 (G+F1 T3 l));rw[hr]at h2;simp only[m8,n8,simprocAttr,h4,e1,l2,hSp,hnp,hc,h3,hr,h2];refine n9 results8 ?_;simp only[p7,simprocAttr];exact⟨by trivial,hx1.trans hx2⟩
 obtain⟨_,hlow⟩:=am6 (ew8 h2);have hin:=hvp.inS hlt;obtain⟨sv,hsv,hld⟩:=F4 (P:=prog) (t:=51) hvp (b7 hx2) (ew4 hlt) aj1 aj3 aj2 N0;rw[N0]at hld;generalize l[i]=q at hsv htk;generalize F1 T3 (l.take i)=S at h3 htk hle1 hsl h2 hlow;obtain⟨d,wz,w3,hal,hst,hx3,hat⟩:=aG8 (hsv.mono (b7 hx2)) (i4 _);have hx23:=hx2.trans hx3;obtain⟨vpa,vva,vbo,vfi,hpa,hva,hbo,hfi,ldr,sdr⟩:=hat.pr;have t1:=sdr (fun w'=>o6 w3.drew w') w3.drew (o9.refl _) fun w' h=>b7 ((o6.drew w3).trans h);simp only[m8,n8,v8,simprocAttr,h4,e1,l2,hSp,hnp,hc,h3,h2,hin,hld,hal,hst];refine C2 (fun w'=>o6 w3.drew w') 11 (B0 [0,1,2,3,4,5,6,7,8,9,10]) (by decide +kernel) (o9.refl _) ?_;simp only[D5,B0,m8,n8,simprocAttr,t1,h3];refine D1 br9 (P7 q.name (G+S) w3.drew) ⟨o9.refl _,?_⟩;simp only[D5,m8,simprocAttr];refine D1 cx4 (ad0 vva q.vars (G+S+wtT q.name) w3.drew (A3.mono (b7 (o6.drew w3)) hva)) ⟨o9.refl _,?_⟩;simp only[D5,m8,simprocAttr];refine D1 cx4 (ad0 vfi q.fin (G+S+wtT q.name+au9 q.vars) w3.drew (A3.mono (b7 (o6.drew w3)) hfi)) ⟨o9.refl _,?_⟩;generalize hB:G+S+wtT q.name+au9 q.vars+au9 q.fin=B;have hB2:G+F1 T3 (l.take (i+1))=B+F1 (fun a:Pa=>wtT a.name) q.params+G5 q.body:=by
  rw[htk,←hB];unfold T3;rw[bw6];omega
 have hSa:=hpa.isS;have hna:=hpa.vlen;generalize q.params=pas at hpa hna hB2;simp only[D5,m8,simprocAttr];refine n7 [1,4,5] (σ:=Nat) (fun k f' w'=>f' 6 = .int .i64 k∧f' 3 = .int .i64 (J6 (B+F1 (fun a:Pa=>wtT a.name) (pas.take k)))∧k≤pas.length∧o6 w3 w') (fun k=>pas.length-k) 0 (by decide +kernel) ?_ ?_
 ·simp only[p7,simprocAttr];exact⟨by trivial,by simp[F1],ex6 _,o6.drew w3⟩
 rintro k f2 w5 hk ⟨h6,h3',hkl,hx5⟩;simp only[ew6,p7,simprocAttr]at hk;obtain⟨g1,g4,g5,_⟩:=hk;rw[h4]at g4;have l5:=ldr w5 (b7 hx5);have hx25:=hx23.trans hx5;have hle2:=au4 (f:=fun a:Pa=>wtT a.name) pas k;have hend:(decide ((k:Int)<(pas.length:Int))&&decide (J6 (B+F1 (fun a:Pa=>wtT a.name) (pas.take k))≤20000))=false→J6 (B+F1 (fun a:Pa=>wtT a.name) (pas.take k))=J6 (B+F1 (fun a:Pa=>wtT a.name) pas):=fun hg=>by
  rcases ew5 (decide ((k:Int)<(pas.length:Int)))with h|h
  ·rw[h,eG4]at hg;have e:=ad5 (m:=B+F1 (fun a:Pa=>wtT a.name) pas) (ew9 hg) (by omega);rw[e.1,e.2]
  ·have hge:k=pas.length:=by have:=ew9 h;omega
   rw[hge,ex5]
 rcases ew5 (decide ((k:Int)<(pas.length:Int)))with h7|h7;rotate_left
 ·rw[hend (by rw[h7];rfl)]at h3';simp only[m8,n8,simprocAttr,h6,g5,l5,hSa,hna,h7,h3'];refine B7 bH6 (aE2 (G5 q.body) q.body vbo (B+F1 (fun a:Pa=>wtT a.name) pas) w5 (ex9 _) (A3.mono (b7 hx5) hbo)) (fun w6 hx6=>?_);simp only[m8,n8,simprocAttr,g4];exact⟨i+1,by omega,by rw[B2 i (by omega)],by rw[hB2],by omega,hx25.trans hx6⟩
 rcases ew5 (decide (J6 (B+F1 (fun a:Pa=>wtT a.name) (pas.take k))≤20000))with h8|h8;rotate_left
 ·have he:=hend (by rw[h7,h8];rfl);rw[he]at h3' h8;simp only[m8,n8,simprocAttr,h6,g5,l5,hSa,hna,h7,h8,h3'];refine B7 bH6 (aE2 (G5 q.body) q.body vbo (B+F1 (fun a:Pa=>wtT a.name) pas) w5 (ex9 _) (A3.mono (b7 hx5) hbo)) (fun w6 hx6=>?_);simp only[m8,n8,simprocAttr,g4];exact⟨i+1,by omega,by rw[B2 i (by omega)],by rw[hB2],by omega,hx25.trans hx6⟩
 have hlt2:k<pas.length:=by have:=ew8 h7;omega
 obtain⟨_,hlow2⟩:=am6 (ew8 h8);have htk2:=af2 (f:=fun a:Pa=>wtT a.name) hlt2;have hsl2:=af1 (f:=fun a:Pa=>wtT a.name) (fun a=>aH2 _) (pas.take k);rw[ex4]at hsl2;have hina:=hpa.inS hlt2;have hata:=hpa.at_ (i:=k) (x:=pas[k]) (ew4 hlt2);have hz2:A3.sz Pa=2:=rfl;rw[hz2]at hata;obtain⟨ldpa,_⟩:=hata.pa;have l6:=ldpa w5 (b7 hx5);generalize pas[k]=pa at htk2 l6;generalize F1 (fun a:Pa=>wtT a.name) (pas.take k)=S2 at h3' htk2 hlow2 hsl2 h8;simp only[m8,n8,v8,simprocAttr,h6,g5,l5,hSa,hna,h7,h8,h3',hina,l6];refine D1 br9 (P7 pa.name (B+S2) w5) ?_;simp only[m8,n8,simprocAttr,h6];exact⟨k+1,by omega,by rw[B2 k (by omega)],by rw[htk2,←eF8],by omega,hx5⟩
theorem bE9{α:Type}[DecidableEq α]{le:α→α→Prop}(htr:∀a b c,le a b→le b c→le a c)(han:∀a b,le a b→le b a→a=b):∀{l:List α},l.Pairwise le→(H4 l).Pairwise fun a b=>le a b∧a≠b
 | [],_=>by simp[H4]
 | [x],_=>by simp[H4]
 | x::y::l,h=>by
  rw[eB4]at h;have ih:=bE9 htr han h.2;rw[H4];split
  ·exact ih
  ·rename_i hxy;rw[eB4];refine⟨fun z hz=>?_,ih⟩;rw[as4]at hz;refine⟨h.1 z hz,fun e=>?_⟩;subst e;rcases ey3.1 hz with e|hz
   ·exact hxy e
   ·exact hxy (han _ _ (h.1 y (by simp)) ((eB4.1 h.2).1 x hz))
def bt1(a b:Vx):Bool:=if a.proc≠b.proc then Z6 a.proc b.proc else if a.kind≠b.kind then decide (a.kind<b.kind)else if a.id≠b.id then decide (a.id<b.id)else Z6 a.slot b.slot
def I9(a b:Eg):Bool:=if a.src≠b.src then bt1 a.src b.src else if a.dst≠b.dst then bt1 a.dst b.dst else decide (a.kind<b.kind)
theorem ca4{a b:Int}(h:a≠b):I2 a b≠0:=fun e=>h (S5 e)
theorem cL7{a b:A6}(h:a≠b):X1 a b≠0:=fun e=>h (as3 e)
theorem bq9(a:Int):I2 a a=0:=by unfold I2;simp
theorem ci6(a:A6):X1 a a=0:=by unfold X1;simp[J9]
theorem bx7{a b:Int}:decide (I2 a b<0)=decide (a<b):=by
 unfold I2;by_cases h:a<b
 ·simp[h]
 ·rw[if_neg h];split<;>simp[h]
theorem ca5{a b:A6}:decide (X1 a b<0)=Z6 a b:=by
 unfold X1;cases h:Z6 a b
 ·simp only[eD3,eE5];split<;>simp
 ·simp
theorem bI9(a b:Vx):bt1 a b=decide (vxC a b<0):=by
 unfold bt1 vxC;rw[or4];by_cases h1:a.proc=b.proc
 ·rw[if_neg (by simpa using h1),h1,ci6,if_pos rfl];by_cases h2:a.kind=b.kind
  ·rw[if_neg (by simpa using h2),h2,bq9,if_pos rfl];by_cases h3:a.id=b.id
   ·rw[if_neg (by simpa using h3),h3,bq9,if_pos rfl];by_cases h4:X1 a.slot b.slot=0
    ·rw[if_pos h4,as3 h4,J9];rfl
    ·rw[if_neg h4,ca5]
   ·rw[if_pos h3,if_neg (ca4 h3),bx7]
  ·rw[if_pos h2,if_neg (ca4 h2),bx7]
 ·rw[if_pos h1,if_neg (cL7 h1),ca5]
theorem bO2(a:Vx):vxC a a=0:=bE7.refl a
theorem av4(a b:Eg):I9 a b=decide (egC a b<0):=by
 unfold I9 egC;rw[or3];by_cases h1:a.src=b.src
 ·rw[if_neg (by simpa using h1),h1,bO2,if_pos rfl];by_cases h2:a.dst=b.dst
  ·rw[if_neg (by simpa using h2),h2,bO2,if_pos rfl];by_cases h4:I2 a.kind b.kind=0
   ·rw[if_pos h4,S5 h4];simp
   ·rw[if_neg h4,bx7]
  ·rw[if_pos h2,if_neg (fun e=>h2 (aE1 e)),bI9]
 ·rw[if_pos h1,if_neg (fun e=>h1 (aE1 e)),bI9]
section
variable {α:Type} {c:α→α→Int}
theorem Cm.letr(h:Cm c){x y z:α}(h1:c x y≤0)(h2:c y z≤0):c x z≤0:=h.trans x y z h1 h2
theorem cC8(h:Cm c)(l:List α):(T6 (fun a b=>decide (c a b≤0)) l).Pairwise fun a b=>c a b≤0:=by
 have:=ac8 (le:=fun a b=>decide (c a b≤0)) (l:=l) (fun a _ b _=>h.total a b) fun a _ b _ d _ h1 h2=>eD8 (h.letr (ew8 h1) (ew8 h2));exact this.imp fun h=>ew8 h
end
theorem bQ9(b:Bk)(i:Int):(b.edges i).Pairwise fun u v=>I9 u v=true:=by
 have h0:=cC8 aM9 (b.edge0 i);have e:(fun a b=>decide (egC a b≤0))=cu1:=rfl;rw[e]at h0;have h2:(b.edges i).Pairwise fun a b=>egC a b≤0∧a≠b:=bE9 (le:=fun a b=>egC a b≤0) (fun a b c=>aM9.letr) (fun a b h1 h2=>aB1 (aM9.eq0 (eD8 h1) (eD8 h2))) h0;refine h2.imp fun{u v} ⟨h1,h2⟩=>?_;rw[av4];refine eD8 ?_;have:egC u v≠0:=fun e=>h2 (aB1 e);omega
theorem cm6{b:Bk}{i:Int}{e:Eg}:e∈b.edges i↔e∈b.edge0 i:=by
 unfold Bk.edges bl2;rw[as4,(H6 cu1 _).mem_iff]
section
variable {p:Pg} {i:Nat}
def Mid(p:Pg)(a:Int):Prop:=∃j:Nat,a=(j:Int)+1∧j<(b9 p).l.length
theorem ap9(hr:F5 p)(hw:D6 p≤1000000)(hi:i<p.procs.length){f:Fw}(hf:f∈(z7 p).flows (i:Int)):(f.src=0∨Mid p f.src)∧(f.dst = -1∨Mid p f.dst):=by
 obtain⟨x,pt⟩:=O9 hr.may hw i hi;have hok:=T8 pt;have hn:=hok.n;have hf:f∈(z7 p).flow0 (i:Int):=(H6 _ _).mem_iff.1 hf;rw[aU7]at hf;obtain⟨n,hf⟩:=hf;rw[aa6]at hf;obtain⟨a,c,ha,hc,ht,_,rfl⟩:=hf;have hal:=ae2 _ _ _ a ha;have ha:=(eA8.1 ha).2;rw[ez2]at ha ht;unfold Bk.gives at ha;unfold Bk.takes at ht;simp only[R8 hi]at ha ht hal hc ⊢;have hmid:∀k:Nat,k≠0→(k:Int)<(E3 (b9 p) i).n-1→Mid p ((E3 (b9 p) i).place (k:Int)):=fun k h0 hk=>by
  obtain⟨q,_,h2,h3,_⟩:=at6 hok h0 hk;exact⟨q,h3,h2⟩
 constructor
 ·by_cases h0:(a:Int)=0
  ·left;rw[hok.toWyOk.place,if_pos h0]
  ·right;rw[if_neg h0]at ha;split at ha
   ·simp at ha
   ·rename_i hc';have:¬(a:Int)=(E3 (b9 p) i).n-1:=fun h=>hc' (.inl h);exact hmid a (by omega) (by omega)
 ·by_cases h0:(c:Int)=(E3 (b9 p) i).n-1
  ·left;rw[hok.toWyOk.place,if_neg (by omega),if_pos h0]
  ·right;rw[if_neg h0]at ht;split at ht
   ·simp at ht
   ·rename_i hc';have:¬(c:Int)=0:=fun h=>hc' (.inl h);exact hmid c (by omega) (by omega)
theorem bw1(hr:F5 p)(hw:D6 p≤1000000)(hi:i<p.procs.length):∃M:Nat,(E3 (b9 p) i).n=(M:Int)∧M≤202:=by
 obtain⟨x,pt⟩:=O9 hr.may hw i hi;have hn:=(T8 pt).n;have hlen:=pt.ok.len;have:=J4 hr.may;exact⟨(E3 (b9 p) i).n.toNat,by omega,by omega⟩
theorem aF2(hr:F5 p)(hw:D6 p≤1000000)(hi:i<p.procs.length):((z7 p).flows (i:Int)).length≤5000000:=by
 obtain⟨M,hM,hM2⟩:=bw1 hr hw hi;have e:((z7 p).flows (i:Int)).length=((z7 p).flow0 (i:Int)).length:=(H6 bo3 _).length_eq;rw[e];unfold Bk.flow0;rw[R8 hi,hM,ez1];refine ex3 (Q7 _ 20200 _ fun a ha=>?_) ?_
 ·have ha:=eA4.1 ha;have hg:=(aK3 hr hw hi (k:=a) (by rw[hM];exact Int.ofNat_lt.2 ha)).2;refine ex3 (Q7 _ 202 _ fun n hn=>?_) ?_
  ·rw[ex7];refine ex3 (ez0 _ _) ?_;rw[eC0];exact hM2
  ·omega
 ·rw[eC0];omega
theorem aL5(hr:F5 p)(hw:D6 p≤1000000){q:A6}{pl:Int}{n:A6}(hpl:pl = -1∨Mid p pl):((z7 p).takers q pl n).length≤9:=by
 unfold Bk.takers;split
 ·simp
 ·rename_i h1;obtain⟨j,rfl,hj⟩:=hpl.resolve_left h1;have hs:(z7 p).s=b9 p:=rfl;have hite:(b9 p).it ((j:Int)+1)=(b9 p).l[j]:=by
   unfold Sh.it;rw[show((j:Int)+1-1).toNat=j by omega,List.getD,ew4 hj];rfl
  split
  ·simp
  ·rename_i h4;rw[hs,hite]at h4 ⊢;have h4:((b9 p).l[j]).s.kind=4:=by simpa using h4
   obtain⟨c,hc⟩:=ap5 (hr.fits _ (ex8 hj) h4);have h8:=N6 hr.may hc.lt;have hl:=hc.len;rw[ew7,ex7];have h2:((((b9 p).l[j]).s.args.zip ((z7 p).callee ((b9 p).l[j]).s).params).filter fun x=>(T7 x.1).contains n).length≤8:=by
    refine ex3 (ez0 _ _) ?_;rw[List.length_zip];omega
   split<;>simp only[ez4,eC7]<;>omega
theorem aX8(hr:F5 p)(hw:D6 p≤1000000)(hi:i<p.procs.length):((E3 (b9 p) i).decides).length≤41000:=by
 obtain⟨M,hM,hM2⟩:=bw1 hr hw hi;rw[bf5 hM];refine ex3 (Q7 _ 202 _ fun a ha=>?_) ?_
 ·rw[ex7];refine ex3 (ez0 _ _) ?_;rw[eC0];exact hM2
 ·rw[eC0];omega
theorem bv9(hr:F5 p)(hw:D6 p≤1000000)(hi:i<p.procs.length):((z7 p).verts (i:Int)).length≤30000:=by
 obtain⟨x,pt⟩:=O9 hr.may hw i hi;have h200:=J4 hr.may;have e:((z7 p).verts (i:Int)).length=((z7 p).vert0 (i:Int)).length:=(H6 cW0 _).length_eq;have h1:=aq4 hr hw hi;have h2:=ax3 hr hi;have h3:(((b9 p).of i).flatMap (R7 p p.procs[i].name)).length≤((b9 p).of i).length*100:=Q7 _ 100 _ fun it hit=>bb8 hr hw _ (cA7 pt hit);have h4:((b9 p).of i).length≤200:=by
  rw[pt.ok.of_,eB8,ex4];omega
 have hF:(z7 p).vert0 (i:Int)=([(⟨p.procs[i].name,1,0,e0⟩:Vx)]++((z7 p).slotsIn (i:Int)).map fun n=>(⟨p.procs[i].name,3,0,n⟩:Vx))++(((z7 p).slotsOut (i:Int)).map fun n=>(⟨p.procs[i].name,4,0,n⟩:Vx))++((b9 p).of i).flatMap (R7 p p.procs[i].name):=by
  unfold Bk.vert0;rw[af8 hi];rfl
 rw[e,hF];simp only[ew7,ez4,ex7];omega
end
theorem dF4:ag0 prog 39=true:=by kernel_rfl
theorem dF6:ag0 prog 47=true:=by kernel_rfl
theorem et0:ag0 prog 61=true:=by kernel_rfl
theorem bH8:ag0 prog 62=true:=by kernel_rfl
theorem et1:ag0 prog 63=true:=by kernel_rfl
theorem et2:ag0 prog 64=true:=by kernel_rfl
theorem et3:ag0 prog 65=true:=by kernel_rfl
theorem cO6{w w1 w2:World}(hw1:w.heap.size<w1.heap.size){α:Type}[A3 α][t8 α]{T:TypeId}{u:Value}{l:List α}(ho:A9 (d7 w1) w2 T u l):R (B8 w2 (nP w.heap.size (.slice none 0 0))) u l:=
 ho.flatRN fun b hb=>D3 fun h=>by
  have:=C5 (ho.free hb);rcases h with h|h|h|h
  ·omega
  ·exact absurd h D0
  ·exact absurd h D0
  ·exact h.elim
theorem aQ7(q:A6)(v:Vx):(G4 q v).length≤1:=by
 unfold G4;split
 ·simp
 ·split<;>simp
theorem dH3(w:World)(y:Vx):∃wz,(Instr.alloc 36 true (.tuple #[])).run prog w = .ok (.pointer (some ⟨w.heap.size,0,none⟩)) wz ∧
  (Instr.storeAt 36 (.pointer (some ⟨w.heap.size,0,none⟩)) (.agg (t8.cells y).toArray)).run prog wz = .ok () (w.alloc (.cells (t8.cells y).toArray 36)):=by
 have h:=aH8 (P:=prog) (w:=w) (T:=36) bv7 rfl (cs:=(t8.cells y).toArray) (by rw[Y6];rfl) (fun u hu=>S4 y u (by simpa using hu));exact⟨_,h.1,h.2⟩
theorem en3{w:World}{c:Nat}{y:Vx}(hc:w.heap[c]?=some (.cells (t8.cells y).toArray 36 (0,0)))(z:Vx):∃w',(Instr.storeAt 36 (.pointer (some ⟨c,0,none⟩)) (.agg (t8.cells z).toArray)).run prog w = .ok () w'∧w'.heap[c]?=some (.cells (t8.cells z).toArray 36 (0,0))∧o9 (fun b=>b=c) w w':=
 ab3 (P:=prog) (T:=36) hc bv7 (by rw[Y6];rfl) (by rw[Y6];rfl) (fun u hu=>S4 z u (by simpa using hu))
theorem ek7{w:World}{c:Nat}{y:Vx}(hc:w.heap[c]?=some (.cells (t8.cells y).toArray 36 (0,0))):(Instr.loadAt 36 (.pointer (some ⟨c,0,none⟩))).run prog w = .ok (.agg (t8.cells y).toArray) w:=
 R2 hc aI8 aJ0 az5 (by rw[Y6];rfl)
theorem cg5(a:Addr)(p:Pg)(i:Nat)(w:World)(ha:At (d7 w) a (z7 p))(hr:F5 p)(hw:D6 p≤1000000)(hi:i<p.procs.length):
  Calls prog 40 #[.pointer (some a),.int .i64 i] w fun e w'=>∃u,e = .returned u∧(A9 (d7 w) w' 60 u ((z7 p).edges (i:Int))∧o6 w w'):=by
 refine d9 (args:=[.pointer (some a),.int .i64 i]) hm func40 rfl (by kernel_rfl) (by show 2≤_;decide +kernel) ?_;obtain⟨x,pt⟩:=O9 hr.may hw i hi;have hwy:=T8 pt;obtain⟨sh,vw,vd,_,vi,vo,has,hvw,hvd,_,hvi,hvo,ldb,sdb⟩:=ha.book rfl;obtain⟨_,_,_,_,_,_,hpg,_,_⟩:=has.sh;rw[I1]at hpg;obtain⟨vg,vp,hvg,hvp,ldp,sdp⟩:=hpg.pg;obtain⟨aw,hcw,haw⟩:=aw8 (hv:=hvw) (k:=i) (p:=⟨E3 (b9 p) i⟩) (by show((J1 p).map fun w=>(⟨w⟩:Ptr Wy))[i]?=_;rw[eA3,V1 hi];rfl);simp only at haw;have hinw:=hvw.inS (k:=i) (by show i<((J1 p).map fun w=>(⟨w⟩:Ptr Wy)).length;unfold J1;simpa using hi);have lb:=ldb w (i4 _);have lp:=ldp w (i4 _);have hF:(z7 p).edge0 (i:Int)=(E3 (b9 p) i).decides.map (ad7 p.procs[i].name)++((z7 p).verts (i:Int)).flatMap (G4 p.procs[i].name)++((z7 p).flows (i:Int)).flatMap fun f=>((z7 p).takers p.procs[i].name f.dst f.var).map fun v=>(⟨(z7 p).giver p.procs[i].name f.src f.var,v,2⟩:Eg):=by
  unfold Bk.edge0;rw[af8 hi,R8 hi]
 have hn1:=aX8 hr hw hi;have hn2:=bv9 hr hw hi;have hn3:=aF2 hr hw hi;have hfp:∀f∈(z7 p).flows (i:Int),(f.src=0∨Mid p f.src)∧(f.dst = -1∨Mid p f.dst):=fun f hf=>ap9 hr hw hi hf;have hin:=hvp.inS hi;obtain⟨sv,hsv,hld⟩:=F4 (P:=prog) (t:=51) hvp (i4 _) (ew4 hi) aj1 aj3 aj2 N0;rw[N0]at hld;obtain⟨cs,rfl,c1,c2,c3,c4,rfl,_⟩:=hsv;generalize p.procs[i].name=q at hF hld;have hbp:=bE5 a (i:Int) q c1 c2 c3 c4;have hbx:(Instr.box 116 (.agg (G7 a i q c1 c2 c3 c4 (.slice none 0 0) (.slice none 0 0)))).run prog w = .ok (.pointer (some ⟨w.heap.size,0,none⟩)) (w.alloc (.cells (G7 a i q c1 c2 c3 c4 (.slice none 0 0) (.slice none 0 0)) 116)):=rfl;have hse:Value.string {data:=#[]}=o7 e0:=rfl;simp only[m8,n8,v8,simprocAttr,lb,lp,hin,hld,hbp,hbx,hse];have hxa:=o6.alloc w (.cells (G7 a i q c1 c2 c3 c4 (.slice none 0 0) (.slice none 0 0)) 116);have hsz1:w.heap.size<(w.alloc (.cells (G7 a i q c1 c2 c3 c4 (.slice none 0 0) (.slice none 0 0)) 116)).heap.size:=by simp
 have hb1:=eA5 w (.cells (G7 a i q c1 c2 c3 c4 (.slice none 0 0) (.slice none 0 0)) 116);generalize hw1:w.alloc (.cells (G7 a i q c1 c2 c3 c4 (.slice none 0 0) (.slice none 0 0)) 116)=w1 at hxa hsz1 hb1;refine B7 aj0 (H7 w.heap.size _ _ q 1 0 e0 w1 hb1 rfl) (fun w2 hx2=>?_);obtain⟨de,wz,w4,hal4,hst4,hx4,hat4⟩:=cf9 (w:=w2) (nP w.heap.size (.slice none 0 0)) (SV.ofN (d7 w2) ⟨q,1,0,e0⟩) fun b hb=>by
  have:=hx2.size;rcases hb with h|h|h|h
  ·omega
  ·exact absurd h D0
  ·exact absurd h D0
  ·exact h.elim
 have hx14:=hx2.trans hx4;have hx04:=hxa.trans hx14;have lb4:=ldb w4 (b7 hx04);have hlw:=G3 (P:=prog) (t:=126) hcw (b7 hx04) ar2;simp only[m8,n8,v8,simprocAttr,hal4,hst4,lb4,hinw,hlw];refine z6 et0 (bD4 aw _ p i x _ w4 (haw.mono (b7 hx04)) hr hw hi hwy) ?_;rintro ud w5 ⟨hod,hx5⟩;have hx05:=hx04.trans hx5;have hud:=cO6 (eC4 hsz1 hx14.size) hod;have hat5:=hat4.mono (G6 (N':=nP w.heap.size (.slice none 0 0)) hx5 (fun _ h=>h.elim) fun b h=>.inl h);have hx15:=hx14.trans hx5;rw[←hw1]at hx15;have s5:=(PV.new a i q c1 c2 c3 c4 hx15).2;have hb0:=cd3 hx05;generalize hgb:w.heap.size=gb at s5 hud hat5 hb0;generalize hH0:B8 w5 (nP gb (.slice none 0 0))=H0 at s5 hud hat5 hb0;obtain⟨ldE,_⟩:=I4.vx_v (SV.ofN (d7 w2) (⟨q,1,0,Go.Proofs.YtcbnbgpphippoaaGreat.e0⟩:Vx)) hat5;generalize(E3 (b9 p) i).decides=D at hF hn1 hud;have hSd:=hud.isS;have hnd:=hud.vlen;clear hin hld;simp only[m8,n8,simprocAttr,hSd,hnd];refine n7 [0,1,5,6,41,42] (σ:=Nat×Value) (fun t f w'=>f 43 = .int .i64 t.1∧t.1≤D.length∧PE H0 w w' gb a i q c1 c2 c3 c4 t.2 ((D.take t.1).map (ad7 q))) (fun t=>D.length-t.1) (0,.slice none 0 0) (by decide +kernel) ?_ ?_
 ·simp only[p7,simprocAttr];exact⟨by trivial,ex6 _,by simpa using s5⟩
 clear s5;rintro⟨k,v⟩ f w5 hk ⟨h43,hkl,s5⟩;simp only at h43 hkl s5;simp only[ew6,p7,simprocAttr]at hk;obtain⟨e0',e1,e5,e6,e41,e42,_⟩:=hk;simp only[m8,n8,simprocAttr,h43,e42];refine i5 (fun hc=>?_) (fun hc=>?_)
 ·have hlt:k<D.length:=by simpa using hc
  have hin:=hud.inS hlt;have hld:=cz0 hud s5.hb (ew4 hlt);have htk:=aC8 (ad7 q) D hlt;have hcl:((D.take k).map (ad7 q)).length≤1000000000:=by rw[ex7,ex4];omega
  generalize D[k]=d at hld htk;obtain⟨c8,wz6,w6,hal6,hst6,hx6,hc8,hc8n⟩:=cJ0 (w:=w5) d.1 d.2;have s6:=s5.more hx6;have lE6:=ldE w6 s6.hb;obtain⟨wz7,hal7,hst7⟩:=dH3 w6 ⟨q,1,0,Go.Proofs.YtcbnbgpphippoaaGreat.e0⟩;have hx7:=o6.alloc w6 (.cells (t8.cells (⟨q,1,0,Go.Proofs.YtcbnbgpphippoaaGreat.e0⟩:Vx)).toArray 36);have hc9:=eA5 w6 (.cells (t8.cells (⟨q,1,0,Go.Proofs.YtcbnbgpphippoaaGreat.e0⟩:Vx)).toArray 36);generalize w6.alloc (.cells (t8.cells (⟨q,1,0,Go.Proofs.YtcbnbgpphippoaaGreat.e0⟩:Vx)).toArray 36)=w7 at hst7 hx7 hc9;obtain⟨l8,_⟩:=ak4 hc8 hx7 id;simp only[bO7,n8,v8,simprocAttr,h43,e41,e6,hin,hld,hal6,hst6,lE6,hal7,hst7,l8];refine bi0 [0,1,5,6,8,9,41,42,43] (fun f' w'=>o6 w6 w'∧w'.heap[w6.heap.size]?=some (.cells (t8.cells (ad7 q d).src).toArray 36 (0,0))) (by decide +kernel) ?_ ?_
  ·rcases ew5 (decide (d.1=0))with h0|h0
   ·simp only[m8,n8,simprocAttr,h0];refine⟨hx7,?_⟩;unfold ad7;rw[if_pos (ew8 h0)];exact hc9
   ·simp only[m8,n8,v8,simprocAttr,h0,e5,l8];refine B7 aj0 (H7 gb _ _ q 2 d.1 Go.Proofs.YtcbnbgpphippoaaGreat.e0 w7 (s6.more hx7).cb rfl) (fun w8 hx8=>?_);obtain⟨w9,q1,q2,q3⟩:=en3 (c:=w6.heap.size) ((hx8.block _ (ex0.1 hc9).1 id).trans hc9) ⟨q,2,d.1,Go.Proofs.YtcbnbgpphippoaaGreat.e0⟩;simp only[m8,simprocAttr,q1];refine⟨o9.ext_of (hx7.trans hx8) q3 fun b hb=>by rw[hb];exact ex9 _,?_⟩;unfold ad7;rw[if_neg (ew9 h0)];exact q2
  rintro f8 w8 hk ⟨hx8,hc9'⟩;simp only[ew6,p7,simprocAttr]at hk;obtain⟨g0,g1,g5,g6,g8,g9,g41,g42,g43,_⟩:=hk;have s8:=(s6.more hx8).more (o6.drew w8);have t1:∀K f d' w0',B6 prog (fun w'=>o6 w8.drew w') (Instr.loadAt 36 (.pointer (some ⟨w6.heap.size,0,none⟩))) K f d' w0'=K (A7 f d' (.agg (t8.cells (ad7 q d).src).toArray)) w0':=fun K f d' w0'=>A0 (w0:=w8.drew) (o9.refl _) fun w' h=>ek7 ((((o6.drew w8).trans h).block _ (ex0.1 hc9').1 id).trans hc9');have t2:∀K f d' w0',B6 prog (fun w'=>o6 w8.drew w') (Instr.loadAt 3 (.pointer (some ⟨c8,1,none⟩))) K f d' w0'=K (A7 f d' (.int .i64 d.2)) w0':=fun K f d' w0'=>A0 (w0:=w8.drew) (o9.refl _) fun w' h=>(ak4 hc8 (hx8.trans ((o6.drew w8).trans h)) id).2;simp only[m8,simprocAttr];refine C2 (fun w'=>o6 w8.drew w') 6 (B0 [0,1,2,3,4,5]) (by decide +kernel) (o9.refl _) ?_;simp only[D5,B0,m8,n8,v8,simprocAttr,g5,e5,g8,g9,t1,t2];refine B7 aj0 (H7 gb _ _ q 2 d.2 Go.Proofs.YtcbnbgpphippoaaGreat.e0 w8.drew s8.cb rfl) (fun w9 hx9=>⟨hx9,?_⟩);simp only[D5,m8,simprocAttr];refine z6 bH8 (ae7 H0 gb a i q c1 c2 c3 c4 v _ (ad7 q d).src ⟨q,2,d.2,Go.Proofs.YtcbnbgpphippoaaGreat.e0⟩ 1 w w9 (s8.more hx9) hcl) ?_;rintro _ w10 ⟨v10,s10⟩;simp only[m8,n8,simprocAttr,g43,h43];refine⟨(k+1,v10),by simp only[];omega,by simp only[];rw[B2 k (by omega)],by simp only[];omega,?_⟩;simp only[];rw[htk];exact s10
 have hge:k=D.length:=by simp at hc;omega
 subst hge;rw[ex5]at s5;have hb5:B4 (d7 w) (d7 w5):=p6 hb0 s5.hb;clear hcw hlw lb lp lb4 hinw;simp only[m8,simprocAttr,e0',e1];refine z6 dF4 (aM6 a p i w5 (ha.mono hb5) hr hw hi) ?_;rintro uv w6 ⟨hov,hx6⟩;have s6:=s5.more hx6;have huv:=s5.freshN hov;have b6:=s6.base;have s6:=s6.rebase (i4 _);generalize hK2:B8 w6 (nP gb v)=K2 at s6 huv b6;generalize(z7 p).verts (i:Int)=V at hF hn2 huv;have hL1l:(D.map (ad7 q)).length≤41000:=by rw[ex7];exact hn1
 generalize D.map (ad7 q)=L1 at s6 hF hL1l;have hSv:=huv.isS;have hnv:=huv.vlen;clear s5;simp only[m8,n8,simprocAttr,hSv,hnv];refine n7 [0,1,5,6,65,66] (σ:=Nat×Value) (fun t f w'=>f 67 = .int .i64 t.1∧t.1≤V.length∧PE K2 w w' gb a i q c1 c2 c3 c4 t.2 (L1++(V.take t.1).flatMap (G4 q))) (fun t=>V.length-t.1) (0,v) (by decide +kernel) ?_ ?_
 ·simp only[p7,simprocAttr];exact⟨by trivial,ex6 _,by simpa using s6⟩
 clear s6;rintro⟨m,v2⟩ f2 w7 hk ⟨h67,hml,s7⟩;simp only at h67 hml s7;simp only[ew6,p7,simprocAttr]at hk;obtain⟨a0,a1,a5,a6,a65,a66,_⟩:=hk;rw[e0']at a0;rw[e1]at a1;rw[e5]at a5;rw[e6]at a6;have hcl7:(L1++(V.take m).flatMap (G4 q)).length≤80000:=by
  have h1:=Q7 (G4 q) 1 (V.take m) fun z _=>aQ7 q z;rw[ex4]at h1;rw[ew7];have h2:min m V.length≤30000:=by omega
  omega
 simp only[m8,n8,simprocAttr,h67,a66];refine i5 (fun hc=>?_) (fun hc=>?_)
 ·have hlt:m<V.length:=by simpa using hc
  have hin:=huv.inS hlt;obtain⟨sv,hsv,hld⟩:=F4 (P:=prog) (t:=36) huv (s7.hb) (ew4 hlt) aI8 aJ0 az5 Y6;rw[Y6]at hld;have htk:=J0 (G4 q) V hlt;generalize V[m]=vx at hsv htk;obtain rfl:=hsv.N;obtain⟨d8,wz8,w8,hal8,hst8,hx8,hat8⟩:=cf6 (hsv.mono s7.hb) (i4 _);obtain⟨ldv,sdv⟩:=hat8.vx;obtain⟨sv,hsv',ldw,sdw⟩:=hat8.vx_v;obtain rfl:=hsv'.N;have l8:=ldv w8 (i4 _);have lw8:=ldw w8 (i4 _);have s8:=s7.more hx8;have lE8:=ldE w8 (p6 b6 s8.hb);have s8d:=s8.more (o6.drew w8);have t1:=sdw (fun w'=>o6 w8.drew w') w8.drew (o9.refl _) fun w' h=>b7 ((o6.drew w8).trans h);have t2:=sdv (fun w'=>o6 w8.drew w') w8.drew (o9.refl _) fun w' h=>b7 ((o6.drew w8).trans h);generalize hxs:L1++(V.take m).flatMap (G4 q)=xs at s7 s8 s8d hcl7;have hxs':L1++(V.take (m+1)).flatMap (G4 q)=xs++G4 q vx:=by rw[htk,←hxs,ey6]
  rcases ew5 (decide (vx.kind=3))with h3|h3
  ·have hs:G4 q vx=[⟨⟨q,1,0,Go.Proofs.YtcbnbgpphippoaaGreat.e0⟩,vx,1⟩]:=by unfold G4;rw[if_pos (.inl (ew8 h3))]
   simp only[m8,n8,v8,simprocAttr,h67,a65,hin,hld,hal8,hst8,l8,h3,a5,a6,lE8,lw8];refine z6 bH8 (ae7 K2 gb a i q c1 c2 c3 c4 v2 _ ⟨q,1,0,Go.Proofs.YtcbnbgpphippoaaGreat.e0⟩ vx 1 w w8 s8 (by omega)) ?_;rintro _ w9 ⟨v9,s9⟩;simp only[m8,n8,simprocAttr,h67];refine⟨(m+1,v9),by simp only[];omega,by simp only[];rw[B2 m (by omega)],by simp only[];omega,?_⟩;simp only[];rw[hxs',hs];exact s9
  rcases ew5 (decide (vx.kind=4))with h4|h4
  ·have hs:G4 q vx=[⟨⟨q,1,0,Go.Proofs.YtcbnbgpphippoaaGreat.e0⟩,vx,1⟩]:=by unfold G4;rw[if_pos (.inr (ew8 h4))]
   simp only[m8,n8,v8,simprocAttr,h67,a65,hin,hld,hal8,hst8,l8,h3,h4,a5,a6,lE8,lw8];refine z6 bH8 (ae7 K2 gb a i q c1 c2 c3 c4 v2 _ ⟨q,1,0,Go.Proofs.YtcbnbgpphippoaaGreat.e0⟩ vx 1 w w8 s8 (by omega)) ?_;rintro _ w9 ⟨v9,s9⟩;simp only[m8,n8,simprocAttr,h67];refine⟨(m+1,v9),by simp only[];omega,by simp only[];rw[B2 m (by omega)],by simp only[];omega,?_⟩;simp only[];rw[hxs',hs];exact s9
  have hn34:¬(vx.kind=3∨vx.kind=4):=fun h=>h.elim (ew9 h3) (ew9 h4);rcases ew5 (decide (vx.kind=5))with h5|h5
  ·have hs:G4 q vx=[⟨⟨q,2,vx.id,Go.Proofs.YtcbnbgpphippoaaGreat.e0⟩,vx,1⟩]:=by unfold G4;rw[if_neg hn34,if_pos (.inl (ew8 h5))]
   simp only[m8,n8,v8,simprocAttr,h67,a65,hin,hld,hal8,hst8,l8,h3,h4,h5];refine C2 (fun w'=>o6 w8.drew w') 6 (B0 [0,1,2,3,5,4]) (by decide +kernel) (o9.refl _) ?_;simp only[D5,B0,m8,n8,simprocAttr,a5,t1,t2];refine B7 aj0 (H7 gb _ _ q 2 vx.id Go.Proofs.YtcbnbgpphippoaaGreat.e0 w8.drew s8d.cb rfl) (fun w9 hx9=>⟨hx9,?_⟩);simp only[D5,m8,simprocAttr];refine z6 bH8 (ae7 K2 gb a i q c1 c2 c3 c4 v2 _ ⟨q,2,vx.id,Go.Proofs.YtcbnbgpphippoaaGreat.e0⟩ vx 1 w w9 (s8d.more hx9) (by omega)) ?_;rintro _ w10 ⟨v10,s10⟩;simp only[m8,n8,simprocAttr,h67];refine⟨(m+1,v10),by simp only[];omega,by simp only[];rw[B2 m (by omega)],by simp only[];omega,?_⟩;simp only[];rw[hxs',hs];exact s10
  rcases ew5 (decide (vx.kind=6))with h6|h6
  ·have hs:G4 q vx=[⟨⟨q,2,vx.id,Go.Proofs.YtcbnbgpphippoaaGreat.e0⟩,vx,1⟩]:=by unfold G4;rw[if_neg hn34,if_pos (.inr (ew8 h6))]
   simp only[m8,n8,v8,simprocAttr,h67,a65,hin,hld,hal8,hst8,l8,h3,h4,h5,h6];refine C2 (fun w'=>o6 w8.drew w') 6 (B0 [0,1,2,3,5,4]) (by decide +kernel) (o9.refl _) ?_;simp only[D5,B0,m8,n8,simprocAttr,a5,t1,t2];refine B7 aj0 (H7 gb _ _ q 2 vx.id Go.Proofs.YtcbnbgpphippoaaGreat.e0 w8.drew s8d.cb rfl) (fun w9 hx9=>⟨hx9,?_⟩);simp only[D5,m8,simprocAttr];refine z6 bH8 (ae7 K2 gb a i q c1 c2 c3 c4 v2 _ ⟨q,2,vx.id,Go.Proofs.YtcbnbgpphippoaaGreat.e0⟩ vx 1 w w9 (s8d.more hx9) (by omega)) ?_;rintro _ w10 ⟨v10,s10⟩;simp only[m8,n8,simprocAttr,h67];refine⟨(m+1,v10),by simp only[];omega,by simp only[];rw[B2 m (by omega)],by simp only[];omega,?_⟩;simp only[];rw[hxs',hs];exact s10
  have hs:G4 q vx=[]:=by
   unfold G4;rw[if_neg hn34,if_neg fun h=>h.elim (ew9 h5) (ew9 h6)]
  simp only[m8,n8,v8,simprocAttr,h67,a65,hin,hld,hal8,hst8,l8,h3,h4,h5,h6];refine⟨(m+1,v2),by simp only[];omega,by simp only[];rw[B2 m (by omega)],by simp only[];omega,?_⟩;simp only[];rw[hxs',hs,ez3];exact s8
 have hge:m=V.length:=by simp at hc;omega
 subst hge;rw[ex5]at s7 hcl7;have hb7:B4 (d7 w) (d7 w7):=p6 hb0 (p6 b6 s7.hb);simp only[m8,simprocAttr,a0,a1];refine z6 dF6 (bp5 a p i w7 (ha.mono hb7) hr hw hi) ?_;rintro uf w8 ⟨hof,hx8⟩;have s8:=s7.more hx8;have huf:=s7.freshN hof;have b8:=p6 b6 s8.base;have s8:=s8.rebase (i4 _);generalize hK3:B8 w8 (nP gb v2)=K3 at s8 huf b8;generalize(z7 p).flows (i:Int)=Fl at hF hn3 hfp huf;generalize L1++V.flatMap (G4 q)=L2 at s8 hF hcl7;generalize hG:(fun f:Fw=>((z7 p).takers q f.dst f.var).map fun v=>(⟨(z7 p).giver q f.src f.var,v,2⟩:Eg))=G at hF;have hGe:∀f:Fw,G f=((z7 p).takers q f.dst f.var).map fun v=>(⟨(z7 p).giver q f.src f.var,v,2⟩:Eg):=fun f=>by rw[←hG]
 have hGl:∀f∈Fl,(G f).length≤9:=fun f hf=>by
  rw[hGe,ex7];exact aL5 hr hw (hfp f hf).2
 have hSf:=huf.isS;have hnf:=huf.vlen;clear s7 hG;simp only[m8,n8,simprocAttr,hSf,hnf];refine n7 [0,1,5,6,93,94] (σ:=Nat×Value) (fun t f w'=>f 95 = .int .i64 t.1∧t.1≤Fl.length∧PE K3 w w' gb a i q c1 c2 c3 c4 t.2 (L2++(Fl.take t.1).flatMap G)) (fun t=>Fl.length-t.1) (0,v2) (by decide +kernel) ?_ ?_
 ·simp only[p7,simprocAttr];exact⟨by trivial,ex6 _,by simpa using s8⟩
 clear s8;rintro⟨k,v3⟩ f3 w9 hk ⟨h95,hkl,s9⟩;simp only at h95 hkl s9;simp only[ew6,p7,simprocAttr]at hk;obtain⟨b0,b1,b5,b6',b93,b94,_⟩:=hk;rw[a5]at b5;have hcl9:(L2++(Fl.take k).flatMap G).length≤50000000:=by
  have h1:=Q7 G 9 (Fl.take k) fun z hz=>hGl z (eG0 hz);rw[ex4]at h1;rw[ew7];have h2:min k Fl.length≤5000000:=by omega
  omega
 have hb3:B4 (d7 w) K3:=p6 hb0 b8;simp only[m8,n8,simprocAttr,h95,b94];refine i5 (fun hc=>?_) (fun hc=>?_);rotate_left
 ·have hge:k=Fl.length:=by simp at hc;omega
  subst hge;rw[ex5]at s9 hcl9;have l9:(Instr.loadAt 32 (.pointer (some ⟨gb,8,none⟩))).run prog w9 = .ok v3 w9:=F0 (i:=8) (u:=v3) s9.cb rfl cG6;simp only[m8,n8,simprocAttr,b5,l9];refine z6 et3 (bP1 s9.ox (by omega) (B3 _ _)) ?_;rintro u w10 ⟨ho10,hm10,_⟩;simp only[m8,simprocAttr];refine n9 results40 ?_;simp only[p7,simprocAttr];refine⟨?_,o9.ext_of s9.ext hm10 fun b hb=>(s9.dx b hb).1⟩;have e:(z7 p).edges (i:Int)=bl2 (L2++Fl.flatMap G):=by unfold Bk.edges;rw[hF]
  rw[e];exact ho10.downN (p6 hb3 s9.base)
 have hlt:k<Fl.length:=by simpa using hc
 have hin:=huf.inS hlt;obtain⟨sv,hsv,hld⟩:=F4 (P:=prog) (t:=97) huf (s9.hb) (ew4 hlt) bN6 bO0 bN8 bb6;rw[bb6]at hld;have htk:=J0 G Fl hlt;obtain⟨hps,hpd⟩:=hfp _ (ex8 hlt);generalize Fl[k]=fl at hsv htk hps hpd;obtain⟨d13,wz10,w10,hal10,hst10,hx10,hat10⟩:=cf5 (hsv.mono s9.hb) (i4 _);obtain⟨ldf,_⟩:=hat10.fw;have l10:=ldf w10 (i4 _);have s10:=s9.more hx10;simp only[m8,n8,v8,simprocAttr,h95,b93,hin,hld,hal10,hst10,l10,b5];refine B7 et1 (ck8 gb _ _ a p q fl.src fl.var w10 s10.cb rfl rfl (ha.mono (p6 hb3 s10.hb)) hr hw hps) (fun w11 hx11=>?_);have s11:=s10.more hx11;have hGf:=hGe fl;generalize(z7 p).giver q fl.src fl.var=gv at hGf;obtain⟨d14,wz12,w12,hal12,hst12,hx12,hat12⟩:=cf9 (w:=w11) (nP gb v3) (SV.ofN (d7 w11) gv) fun b hb=>s11.lt hb;have s12:=s11.more hx12;have l12:=ldf w12 (b7 (hx11.trans hx12));simp only[m8,n8,simprocAttr,hal12,hst12,l12,b5];refine z6 et2 (bW2 gb _ _ a p q fl.dst fl.var w12 s12.cb rfl rfl (ha.mono (p6 hb3 s12.hb)) hr hw hpd) ?_;rintro ut w13 ⟨hot,hx13⟩;have s13:=s12.more hx13;have hut:=s12.freshN hot;have hat13:=hat12.mono (G6 (N':=nP gb v3) hx13 (fun _ h=>h.elim) fun b h=>.inl h);have b13:=s13.base;have s13:=s13.rebase (i4 _);generalize hK4:B8 w13 (nP gb v3)=K4 at s13 hut hat13 b13;obtain⟨ldg,_⟩:=I4.vx_v (SV.ofN (d7 w11) gv) hat13;have htf:=aL5 hr hw (q:=q) (n:=fl.var) hpd;generalize(z7 p).takers q fl.dst fl.var=Tk at hGf hut htf;generalize hxs:L2++(Fl.take k).flatMap G=xs at s13 hcl9;have hxs':L2++(Fl.take (k+1)).flatMap G=xs++Tk.map fun v=>(⟨gv,v,2⟩:Eg):=by rw[htk,hGf,←hxs,ey6]
 have hSt:=hut.isS;have hnt:=hut.vlen;clear s9 s10 s11 s12;simp only[m8,n8,simprocAttr,hSt,hnt];refine n7 [0,1,5,6,14,93,94,95,110,111] (σ:=Nat×Value) (fun t f w'=>f 112 = .int .i64 t.1∧t.1≤Tk.length∧PE K4 w w' gb a i q c1 c2 c3 c4 t.2 (xs++(Tk.take t.1).map fun v=>(⟨gv,v,2⟩:Eg))) (fun t=>Tk.length-t.1) (0,v3) (by decide +kernel) ?_ ?_
 ·simp only[p7,simprocAttr];exact⟨by trivial,ex6 _,by simpa using s13⟩
 clear s13;rintro⟨j,v4⟩ f4 w14 hk ⟨h112,hjl,s14⟩;simp only at h112 hjl s14;simp only[ew6,p7,simprocAttr]at hk;obtain⟨j0,j1,j5,j6,j14,j93,j94,j95,j110,j111,_⟩:=hk;rw[b5]at j5;rw[h95]at j95;simp only[m8,n8,simprocAttr,h112,j111];refine i5 (fun hc2=>?_) (fun hc2=>?_);rotate_left
 ·have hge:j=Tk.length:=by simp at hc2;omega
  subst hge;rw[ex5]at s14;simp only[m8,n8,simprocAttr,j95];refine⟨(k+1,v4),by simp only[];omega,by simp only[];rw[B2 k (by omega)],by simp only[];omega,?_⟩;simp only[];rw[hxs'];exact s14.rebase (p6 b13 s14.base)
 have hlt2:j<Tk.length:=by simpa using hc2
 clear hin hld hsv;have hin:=hut.inS hlt2;obtain⟨sv,hsv,hld⟩:=F4 (P:=prog) (t:=36) hut (s14.hb) (ew4 hlt2) aI8 aJ0 az5 Y6;rw[Y6]at hld;have htk2:=aC8 (fun v=>(⟨gv,v,2⟩:Eg)) Tk hlt2;have hcl14:(xs++(Tk.take j).map fun v=>(⟨gv,v,2⟩:Eg)).length≤1000000000:=by
  rw[ew7,ex7,ex4];omega
 generalize Tk[j]=tv at hsv htk2;obtain rfl:=hsv.N;obtain⟨d16,wz15,w15,hal15,hst15,hx15,hat15⟩:=cf6 (hsv.mono s14.hb) (i4 _);obtain⟨sv,hsv',ldt,_⟩:=hat15.vx_v;obtain rfl:=hsv'.N;have s15:=s14.more hx15;have lg:=ldg w15 s15.hb;have lt:=ldt w15 (i4 _);simp only[m8,n8,v8,simprocAttr,h112,j110,hin,hld,hal15,hst15,j5,j14,lg,lt];refine z6 bH8 (ae7 K4 gb a i q c1 c2 c3 c4 v4 _ gv tv 2 w w15 s15 hcl14) ?_;rintro _ w16 ⟨v16,s16⟩;simp only[m8,n8,simprocAttr,h112];refine⟨(j+1,v16),by simp only[];omega,by simp only[];rw[B2 j (by omega)],by simp only[];omega,?_⟩;simp only[];rw[htk2,←ey6];exact s16
theorem cx5:ag0 prog 38=true:=by kernel_rfl
theorem es4:ag0 prog 40=true:=by kernel_rfl
theorem dF5:ag0 prog 45=true:=by kernel_rfl
def cq0(p:Pg)(n:A6):Prop:=¬(ac2 p=true∧0≤R9 p.procs n)
def be2(p:Pg)(n:A6)(k:Nat):Prop:=ac2 p=true∧R9 p.procs n=(k:Int)∧k<p.procs.length
theorem an8(x:Option Addr):B9 prog .eql 78 (.pointer x) (.pointer none)=some (.bool x.isNone):=be7 rfl (by kernel_rfl)
theorem cN4{p:Pg}{n:A6}(h:0≤R9 p.procs n):∃k:Nat,R9 p.procs n=(k:Int)∧k<p.procs.length:=by
 obtain⟨k,e,x,hx,_⟩:=aC3 _ p.procs 0 h;exact⟨k,by unfold R9;rw[e];simp,(ex1.1 hx).1⟩
theorem aq2(v:Value)(p:Pg)(n:A6)(w:World)(hv:SV (d7 w) v p)(hw:D6 p≤1000000):
  Calls prog 38 #[v,o7 n] w fun e w'=>∃u,e = .returned u∧(∃bv iv,u = .tuple #[bv,iv]∧o6 w w'∧((cq0 p n∧bv = .pointer none)∨∃k,be2 p n k∧iv = .int .i64 (k:Nat)∧∃ad,bv = .pointer (some ad)∧At (d7 w') ad (z7 p))):=by
 refine d9 (args:=[v,o7 n]) hm func38 rfl (by kernel_rfl) (by show 2≤_;decide +kernel) ?_;obtain⟨c,w1,hbx,hx1,hatp⟩:=R3 hv (i4 _);obtain⟨sp,hsp,ldsp,_⟩:=hatp.pg_v;have l1:=ldsp w1 (i4 _);simp only[m8,n8,simprocAttr,hbx,l1];refine z6 dF5 (bY6 sp p w1 hsp hw) ?_;rintro u w2 ⟨hf,ht,hx2⟩;cases hR:ac2 p
 ·obtain rfl:=hf hR;simp only[m8,n8,simprocAttr,an8];refine ad4 results38 ?_;simp only[p7,simprocAttr];exact⟨_,_,rfl,hx1.trans hx2,.inl ⟨fun h=>(by rw[hR]at h;cases h.1),by trivial⟩⟩
 obtain⟨ad,rfl,had⟩:=ht hR;obtain⟨sh,_,_,_,_,_,has,_,_,_,_,_,ldb,_⟩:=had.book rfl;have hlp:(b9 p).p.procs.length≤1000000000:=by
  rw[I1];have:=(O5 (ac3 hR).may).2;omega
 have hz:(b9 p).pr n=R9 p.procs n:=by unfold Sh.pr;rw[I1]
 have lb2:=ldb w2 (i4 _);simp only[m8,n8,simprocAttr,an8,lb2];refine B7 bs0 (Z9 sh (b9 p) n w2 has hlp) (fun w3 hx3=>?_);have lb3:=ldb w3 (b7 hx3);rw[hz];rcases ew5 (decide (R9 p.procs n<0))with h0|h0
 ·simp only[m8,n8,simprocAttr,h0];refine ad4 results38 ?_;simp only[p7,simprocAttr];exact⟨_,_,rfl,(hx1.trans hx2).trans hx3,.inl ⟨fun h=>(by have:=ew8 h0;have:=h.2;omega),by trivial⟩⟩
 ·obtain⟨k,hk,hkl⟩:=cN4 (p:=p) (n:=n) (by have:=ew9 h0;omega);simp only[m8,n8,simprocAttr,h0,lb3];refine B7 bs0 (Z9 sh (b9 p) n w3 (has.mono (b7 hx3)) hlp) (fun w4 hx4=>?_);rw[hz];simp only[m8,simprocAttr];refine ad4 results38 ?_;simp only[p7,simprocAttr];exact⟨_,_,rfl,((hx1.trans hx2).trans hx3).trans hx4,.inr ⟨k,⟨hR,hk,hkl⟩,by rw[hk],ad,by trivial,had.mono (b7 (hx3.trans hx4))⟩⟩
theorem aF9{p:Pg}{n:A6}(h:cq0 p n):aJ7 p n=none:=if_neg h
theorem as7{p:Pg}{n:A6}{k:Nat}(h:be2 p n k):aJ7 p n=some (z7 p,(k:Int)):=by
 unfold aJ7;rw[if_pos ⟨h.1,by rw[h.2.1];omega⟩,h.2.1]
theorem bA9(v:Value)(p:Pg)(n:A6)(w:World)(hv:SV (d7 w) v p)(hw:D6 p≤1000000):
  Calls prog 18 #[v,o7 n] w fun e w'=>∃u,e = .returned u∧(A9 (d7 w) w' 9 u (bl6 p n)∧o6 w w'):=by
 refine d9 (args:=[v,o7 n]) hm func18 rfl (by kernel_rfl) (by show 2≤_;decide +kernel) ?_;obtain⟨c,w1,hbx,hx1,hatp⟩:=R3 hv (i4 _);obtain⟨sp,hsp,ldsp,_⟩:=hatp.pg_v;have l1:=ldsp w1 (i4 _);simp only[m8,n8,simprocAttr,hbx,l1];refine z6 cx5 (aq2 sp p n w1 hsp hw) ?_;rintro _ w2 ⟨bv,iv,rfl,hx2,⟨hno,rfl⟩|⟨k,hb,rfl,ad,rfl,had⟩⟩
 ·simp only[m8,n8,simprocAttr,an8];refine n9 results18 ?_;simp only[p7,simprocAttr];unfold bl6;rw[aF9 hno];exact⟨A9.nil _ _ _,hx1.trans hx2⟩
 ·simp only[m8,n8,simprocAttr,an8];refine z6 cx6 (aE4 ad p k w2 had (ac3 hb.1) hw hb.2.2) ?_;rintro _ w3 ⟨ui,uo,rfl,hoi,hoo,_,hx3⟩;simp only[m8,simprocAttr];refine n9 results18 ?_;simp only[p7,simprocAttr];unfold bl6;rw[as7 hb]
  first
   | exact⟨hoi.back (hx1.trans hx2),(hx1.trans hx2).trans hx3⟩
   | exact⟨hoo.back (hx1.trans hx2),(hx1.trans hx2).trans hx3⟩
theorem bA8(v:Value)(p:Pg)(n:A6)(w:World)(hv:SV (d7 w) v p)(hw:D6 p≤1000000):
  Calls prog 19 #[v,o7 n] w fun e w'=>∃u,e = .returned u∧(A9 (d7 w) w' 9 u (bh0 p n)∧o6 w w'):=by
 refine d9 (args:=[v,o7 n]) hm func19 rfl (by kernel_rfl) (by show 2≤_;decide +kernel) ?_;obtain⟨c,w1,hbx,hx1,hatp⟩:=R3 hv (i4 _);obtain⟨sp,hsp,ldsp,_⟩:=hatp.pg_v;have l1:=ldsp w1 (i4 _);simp only[m8,n8,simprocAttr,hbx,l1];refine z6 cx5 (aq2 sp p n w1 hsp hw) ?_;rintro _ w2 ⟨bv,iv,rfl,hx2,⟨hno,rfl⟩|⟨k,hb,rfl,ad,rfl,had⟩⟩
 ·simp only[m8,n8,simprocAttr,an8];refine n9 results19 ?_;simp only[p7,simprocAttr];unfold bh0;rw[aF9 hno];exact⟨A9.nil _ _ _,hx1.trans hx2⟩
 ·simp only[m8,n8,simprocAttr,an8];refine z6 cx6 (aE4 ad p k w2 had (ac3 hb.1) hw hb.2.2) ?_;rintro _ w3 ⟨ui,uo,rfl,hoi,hoo,_,hx3⟩;simp only[m8,simprocAttr];refine n9 results19 ?_;simp only[p7,simprocAttr];unfold bh0;rw[as7 hb]
  first
   | exact⟨hoi.back (hx1.trans hx2),(hx1.trans hx2).trans hx3⟩
   | exact⟨hoo.back (hx1.trans hx2),(hx1.trans hx2).trans hx3⟩
theorem bc3(v:Value)(p:Pg)(n:A6)(w:World)(hv:SV (d7 w) v p)(hw:D6 p≤1000000):
  Calls prog 11 #[v,o7 n] w fun e w'=>∃u,e = .returned u∧(A9 (d7 w) w' 36 u (bC8 p n)∧o6 w w'):=by
 refine d9 (args:=[v,o7 n]) hm func11 rfl (by kernel_rfl) (by show 2≤_;decide +kernel) ?_;obtain⟨c,w1,hbx,hx1,hatp⟩:=R3 hv (i4 _);obtain⟨sp,hsp,ldsp,_⟩:=hatp.pg_v;have l1:=ldsp w1 (i4 _);simp only[m8,n8,simprocAttr,hbx,l1];refine z6 cx5 (aq2 sp p n w1 hsp hw) ?_;rintro _ w2 ⟨bv,iv,rfl,hx2,⟨hno,rfl⟩|⟨k,hb,rfl,ad,rfl,had⟩⟩
 ·simp only[m8,n8,simprocAttr,an8];refine n9 results11 ?_;simp only[p7,simprocAttr];unfold bC8;rw[aF9 hno];exact⟨A9.nil _ _ _,hx1.trans hx2⟩
 ·simp only[m8,n8,simprocAttr,an8];refine z6 dF4 (aM6 ad p k w2 had (ac3 hb.1) hw hb.2.2) ?_;rintro u w3 ⟨ho,hx3⟩;simp only[m8,simprocAttr];refine n9 results11 ?_;simp only[p7,simprocAttr];unfold bC8;rw[as7 hb];exact⟨ho.backN (hx1.trans hx2),(hx1.trans hx2).trans hx3⟩
theorem aP4(v:Value)(p:Pg)(n:A6)(w:World)(hv:SV (d7 w) v p)(hw:D6 p≤1000000):
  Calls prog 13 #[v,o7 n] w fun e w'=>∃u,e = .returned u∧(A9 (d7 w) w' 60 u (ab5 p n)∧o6 w w'):=by
 refine d9 (args:=[v,o7 n]) hm func13 rfl (by kernel_rfl) (by show 2≤_;decide +kernel) ?_;obtain⟨c,w1,hbx,hx1,hatp⟩:=R3 hv (i4 _);obtain⟨sp,hsp,ldsp,_⟩:=hatp.pg_v;have l1:=ldsp w1 (i4 _);simp only[m8,n8,simprocAttr,hbx,l1];refine z6 cx5 (aq2 sp p n w1 hsp hw) ?_;rintro _ w2 ⟨bv,iv,rfl,hx2,⟨hno,rfl⟩|⟨k,hb,rfl,ad,rfl,had⟩⟩
 ·simp only[m8,n8,simprocAttr,an8];refine n9 results13 ?_;simp only[p7,simprocAttr];unfold ab5;rw[aF9 hno];exact⟨A9.nil _ _ _,hx1.trans hx2⟩
 ·simp only[m8,n8,simprocAttr,an8];refine z6 es4 (cg5 ad p k w2 had (ac3 hb.1) hw hb.2.2) ?_;rintro u w3 ⟨ho,hx3⟩;simp only[m8,simprocAttr];refine n9 results13 ?_;simp only[p7,simprocAttr];unfold ab5;rw[as7 hb];exact⟨ho.backN (hx1.trans hx2),(hx1.trans hx2).trans hx3⟩
def aY2(n:Int):Ex:=.mk 1 n e0 []
def Z4(s:A6):Ex:=.mk 2 0 s []
def cb6(op:Int)(a b:Ex):Ex:=.mk op 0 e0 [a,b]
def sV:A6:=ofA #[118]
def sG:A6:=ofA #[103]
def sP:A6:=ofA #[112]
def sX:A6:=ofA #[120]
def sY:A6:=ofA #[121]
def sE:A6:=ofA #[101]
def bl0:Pr:=⟨P8,[],[sV],[.mk 1 1 [] sV e0 (aY2 2) false [] [] [],.mk 2 4 [] sG sP (.mk 0 0 e0 []) false [⟨false,e0,aY2 3⟩,⟨true,sV,.mk 0 0 e0 []⟩] [] [],
 .mk 3 3 [] e0 e0 (Z4 sV) false [] [] [],.mk 4 3 [] e0 e0 (Z4 sG) false [] [] []],[]⟩
def bl1:Pr:=⟨sP,[⟨sX,false⟩,⟨sY,true⟩],[],[.mk 5 1 [] sY e0 (cb6 8 (Z4 sY) (Z4 sX)) false [] [] [],
 .mk 6 5 [] e0 e0 (cb6 12 (Z4 sY) (aY2 9)) false [] [.mk 7 10 [] sE e0 (.mk 0 0 e0 []) false [] [] []] [],.mk 8 9 [] e0 e0 (Z4 sY) true [] [] []],[sE]⟩
def ao6:Pg:=⟨[sG],[bl0,bl1]⟩
theorem bV5:bl6 ao6 sP=[sX,sY]:=by decide +kernel
theorem bV4:bh0 ao6 sP=[O1,sY]:=by decide +kernel
theorem bV6:(bC8 ao6 P8).length=11:=by decide +kernel
theorem co3:(ab5 ao6 sP).contains ⟨⟨sP,2,5,e0⟩,⟨sP,4,0,sY⟩,2⟩=true:=by decide +kernel
theorem cB9{P:Program}{T:TypeId}{z:Value}(hz:G2 P T=some z)(hzs:z.cells.size=E5 P T)(hz1:∀u∈z.cells.toList,u.oneCell'=true)(ht:C1 P T=true)(hu:(P.underlying T).isSome=true)(hi:(P.info? T).isSome=true)(w:World):
  ∃w0,w.heap.size<w0.heap.size∧(Instr.alloc T true (.tuple #[])).run P w = .ok (.pointer (some ⟨w.heap.size,0,none⟩)) w0∧o6 w w0∧∀(w':World) (cs:Array Value),cs.size=E5 P T→(∀u∈cs.toList,u.oneCell'=true)→o6 w0 w' →
  ∃w'',(Instr.storeAt T (.pointer (some ⟨w.heap.size,0,none⟩)) (.agg cs)).run P w' = .ok () w''∧(Instr.loadAt T (.pointer (some ⟨w.heap.size,0,none⟩))).run P w'' = .ok (.agg cs) w''∧o6 w w''∧o9 (fun b=>b=w.heap.size) w' w'':=by
 have h1:=(aH8 (P:=P) (w:=w) (T:=T) hz hzs (cs:=z.cells) hzs hz1).1;refine⟨_,by simp,h1,o6.alloc _ _,fun w' cs hcs hc1 hx=>?_⟩;have hb:w'.heap[w.heap.size]?=some (.cells z.cells T (0,0)):=(hx.block _ (by simp) id).trans (eA5 w _);obtain⟨w'',e1,e2,e3⟩:=ab3 (P:=P) (T:=T) hb hz hzs hcs hc1;exact⟨w'',e1,R2 e2 ht hu hi hcs.symm,o9.ext_of ((o6.alloc _ _).trans hx) e3 fun b hb=>by rw[hb];exact ex9 _,e3⟩
theorem cC0(w:World):∃w0,w.heap.size<w0.heap.size∧(Instr.alloc 41 true (.tuple #[])).run prog w = .ok (.pointer (some ⟨w.heap.size,0,none⟩)) w0∧o6 w w0∧∀(w':World) (cs:Array Value),cs.size=E5 prog 41→(∀u∈cs.toList,u.oneCell'=true)→o6 w0 w' →
  ∃w'',(Instr.storeAt 41 (.pointer (some ⟨w.heap.size,0,none⟩)) (.agg cs)).run prog w' = .ok () w''∧(Instr.loadAt 41 (.pointer (some ⟨w.heap.size,0,none⟩))).run prog w'' = .ok (.agg cs) w''∧o6 w w''∧o9 (fun b=>b=w.heap.size) w' w'':=
 cB9 cI6 (by rw[ao9];rfl) (by simp[Value.cells,Value.oneCell']) bl8 bm5 bm1 w
theorem Q5{k:IntKind}{n:Int}:(Value.int k n).cells=#[.int k n]:=rfl
theorem aJ8{b:Bool}:(Value.bool b).cells=#[.bool b]:=rfl
theorem Q6{s:A6}:(o7 s).cells=#[o7 s]:=rfl
theorem as2{cs:Array Value}:(Value.agg cs).cells=cs:=rfl
theorem dB5:(Value.slice none 0 0).cells=#[.slice none 0 0]:=rfl
theorem P3:Value.string ⟨#[]⟩=o7 e0:=rfl
theorem cr1(n:Int):C0 prog 41 [(0,.int .i64 1),(1,.int .i64 n)]=some (.agg #[.int .i64 1,.int .i64 n,o7 e0,.slice none 0 0]):=by
 simp[C0,ce9,J3,Instr.fill,Q5,P3]
theorem cr2(s:A6):C0 prog 41 [(0,.int .i64 2),(2,o7 s)]=some (.agg #[.int .i64 2,.int .i64 0,o7 s,.slice none 0 0]):=by
 simp[C0,ce9,J3,Instr.fill,Q5,Q6,P3]
theorem cr3(op:Int)(vk:Value)(hk:vk.cells=#[vk]):C0 prog 41 [(0,.int .i64 op),(3,vk)]=some (.agg #[.int .i64 op,.int .i64 0,o7 e0,vk]):=by
 simp[C0,ce9,J3,Instr.fill,Q5,P3,hk]
theorem bz9(n:Int)(w:World):Calls prog 49 #[.int .i64 n] w fun e w'=>∃u,e = .returned u∧(u = .agg #[.int .i64 1,.int .i64 n,o7 e0,.slice none 0 0]∧o6 w w'):=by
 refine d9 (args:=[.int .i64 n]) hm func49 rfl (by kernel_rfl) (by show 1≤_;decide +kernel) ?_;obtain⟨w0,_,hal,hx0,hend⟩:=cC0 w;obtain⟨w1,q1,q2,q3,_⟩:=hend w0 #[.int .i64 1,.int .i64 n,o7 e0,.slice none 0 0] (by rw[ao9];rfl) (by simp[o7,Value.oneCell']) (o9.refl _);have hb:=cr1 n;simp only[m8,n8,simprocAttr,hal,hb,q1];refine L0 results49 (ad:=⟨w.heap.size,0,none⟩) (by simp only[p7,simprocAttr]) q2 ?_;exact⟨rfl,q3⟩
theorem al3(s:A6)(w:World):Calls prog 50 #[o7 s] w fun e w'=>∃u,e = .returned u∧(u = .agg #[.int .i64 2,.int .i64 0,o7 s,.slice none 0 0]∧o6 w w'):=by
 refine d9 (args:=[o7 s]) hm func50 rfl (by kernel_rfl) (by show 1≤_;decide +kernel) ?_;obtain⟨w0,_,hal,hx0,hend⟩:=cC0 w;obtain⟨w1,q1,q2,q3,_⟩:=hend w0 #[.int .i64 2,.int .i64 0,o7 s,.slice none 0 0] (by rw[ao9];rfl) (by simp[o7,Value.oneCell']) (o9.refl _);have hb:=cr2 s;simp only[m8,n8,simprocAttr,hal,hb,q1];refine L0 results50 (ad:=⟨w.heap.size,0,none⟩) (by simp only[p7,simprocAttr]) q2 ?_;exact⟨rfl,q3⟩
section
variable {h:Hp}
theorem aq7{op n:Int}{name:A6}{vk:Value}{kids:List Ex}(hk:R h vk kids):SV h (.agg #[.int .i64 op,.int .i64 n,o7 name,vk]) (Ex.mk op n name kids):=⟨_,rfl,bf9.2 ⟨vk,rfl,hk⟩⟩
theorem cZ5{r:Bool}{name:A6}{c1 c2 c3 c4:Value}{x:Ex}(hx:SV h (.agg #[c1,c2,c3,c4]) x):SV h (.agg #[.bool r,o7 name,c1,c2,c3,c4]) (⟨r,name,x⟩:Ar):=⟨_,rfl,[c1,c2,c3,c4],rfl,hx.enc⟩
theorem bb0{id kind:Int}{vl:Value}{labels:List A6}{name proc:A6}{c1 c2 c3 c4:Value}{x:Ex}{has:Bool}{va vt ve:Value}{args:List Ar}{thn els:List St}
  (hl:R h vl labels) (hx:SV h (.agg #[c1,c2,c3,c4]) x) (ha:R h va args) (ht:R h vt thn) (he:R h ve els) :
  SV h (.agg #[.int .i64 id,.int .i64 kind,vl,o7 name,o7 proc,c1,c2,c3,c4,.bool has,va,vt,ve]) (St.mk id kind labels name proc x has args thn els):=
 ⟨_,rfl,aT6.2 ⟨vl,[c1,c2,c3,c4],va,vt,ve,rfl,hl,hx.enc,ha,ht,he⟩⟩
theorem cZ6{name:A6}{v1 v2 v3 v4:Value}{params:List Pa}{vars:List A6}{body:List St}{fin:List A6}(h1:R h v1 params)(h2:R h v2 vars)(h3:R h v3 body)(h4:R h v4 fin):
  SV h (.agg #[o7 name,v1,v2,v3,v4]) (⟨name,params,vars,body,fin⟩:Pr):=⟨_,rfl,v1,v2,v3,v4,rfl,h1,h2,h3,h4⟩
theorem dL3{v1 v2:Value}{globals:List A6}{procs:List Pr}(h1:R h v1 globals)(h2:R h v2 procs):SV h (.agg #[v1,v2]) (⟨globals,procs⟩:Pg):=⟨_,rfl,v1,v2,rfl,h1,h2⟩
theorem H9{α:Type}[A3 α]:R h (.slice none 0 0) ([]:List α):=⟨none,0,0,rfl,rfl,ex9 _,[],rfl,fun j v h=>by simp at h⟩
end
def bY7{α:Type}[A3 α](h:Hp):List Value→List α→Prop
 | [],[]=>True
 | x::xs,y::ys=>SV h x y∧bY7 h xs ys
 | _,_=>False
theorem bu3{α:Type}[A3 α]{h:Hp}:∀{xs:List Value} {ys:List α},bY7 h xs ys→M7 h (xs.flatMap (·.cells.toList)) ys∧(∀x∈xs,x.cells.size=A3.sz α)∧ys.length=xs.length
 | [],[],_=>⟨rfl,fun x hx=>(by cases hx),rfl⟩
 | x::xs,y::ys,⟨h1,h2⟩=>by
  obtain⟨i1,i2,i3⟩:=bu3 h2;refine⟨⟨x.cells.toList,_,by simp,h1.enc,i1⟩,fun z hz=>?_,by simp[i3]⟩;rcases ey3.1 hz with rfl|hz
  ·have:=A3.len h1.enc;simpa using this
  ·exact i2 z hz
theorem cY3{P:Program}{t T:TypeId}{sz by_:Nat}(hs:E8 P t T sz by_=true){α:Type}[A3 α](hsz:A3.sz α=sz){h:Hp}{w:World}{xs:List Value}{ys:List α}{parts:Array (Nat×Value)}{n:Nat}(hp:parts.toList=(xs.zipIdx 0).map fun p=>(p.2,p.1))
  (hxy:bY7 h xs ys) (hn:n=xs.length) (hne:xs≠[]) (hlt:xs.length≤16) (hw:B4 h (d7 w)) :
  ∃v w',(Instr.buildSlice t n parts).run P w = .ok v w'∧R (d7 w') v ys∧v.cells=#[v]∧o6 w w'∧A9 h w' T v ys∧∀b,A4 v b→w.heap.size≤b:=by
 obtain⟨h1,h2,h3⟩:=bu3 hxy;obtain⟨v,w',q1,q2,q3,q4⟩:=lit hs hp h1 (by rw[←hsz];exact h2) hn h3 hne hlt hw;exact⟨v,w',q1,q2.rw_ (p6 hw (b7 q3)),D9 q2.isS,q3,q2,q4⟩
theorem noE{N:Nat→Prop}{w w':World}(hx:o6 w w'):B4 (B8 w N) (B8 w' N):=G6 hx (fun _ h=>h.elim) fun b h=>.inl h
theorem cl9{P:Program}{t T:TypeId}{sz by_:Nat}(hs:E8 P t T sz by_=true){α:Type}[A3 α](hsz:A3.sz α=sz){N:Nat→Prop}{w:World}(hN:∀b,N b→b<w.heap.size){xs:List Value}{ys:List α}{parts:Array (Nat×Value)}{n:Nat}(hp:parts.toList=(xs.zipIdx 0).map fun p=>(p.2,p.1))
  (hxy:bY7 (B8 w N) xs ys) (hn:n=xs.length) (hne:xs≠[]) (hlt:xs.length≤16) :
  ∃v w',(Instr.buildSlice t n parts).run P w = .ok v w'∧R (B8 w' N) v ys∧v.cells=#[v]∧o6 w w'∧A9 (B8 w N) w' T v ys∧∀b,A4 v b→w.heap.size≤b:=by
 obtain⟨v,w',q1,_,q2,q3,q4,q5⟩:=cY3 hs hsz hp hxy hn hne hlt (B3 _ _);exact⟨v,w',q1,q4.ro (noE q3) fun b hb=>D3 fun h=>(by have:=hN b h;have:=q5 b hb;omega),q2,q3,q4,q5⟩
theorem df2(s:A6){N:Nat→Prop}(w:World)(hN:∀b,N b→b<w.heap.size):∃v w',(Instr.buildSlice 22 1 #[(0,o7 s)]).run prog w = .ok v w'∧R (B8 w' N) v [s]∧v.cells=#[v]∧o6 w w':=by
 obtain⟨v,w',q1,q2,q3,q5⟩:=cc5 s w (B3 w N);exact⟨v,w',q1,q2.ro (noE q3) fun b hb=>D3 fun h=>(by have:=hN b h;have:=q5 b hb;omega),D9 q2.isS,q3⟩
theorem dK0:E8 prog 39 41 4 56=true:=by kernel_rfl
theorem dJ9:E8 prog 42 101 6 80=true:=by kernel_rfl
theorem cC6:E8 prog 43 45 13 208=true:=by kernel_rfl
theorem dK5:E8 prog 49 68 2 24=true:=by kernel_rfl
theorem dK6:E8 prog 23 51 5 112=true:=by kernel_rfl
theorem bs1(id kind:Int)(n:A6)(c1 c2 c3 c4:Value):C0 prog 45 [(0,.int .i64 id),(1,.int .i64 kind),(3,o7 n),(5,.agg #[c1,c2,c3,c4])]=some (.agg #[.int .i64 id,.int .i64 kind,.slice none 0 0,o7 n,o7 e0,c1,c2,c3,c4,.bool false,.slice none 0 0,.slice none 0 0,.slice none 0 0]):=by
 simp[C0,bm2,J3,Instr.fill,Q5,Q6,as2,P3]
theorem bs2(id kind:Int)(n q:A6)(va:Value)(hk:va.cells=#[va]):C0 prog 45 [(0,.int .i64 id),(1,.int .i64 kind),(3,o7 n),(4,o7 q),(7,va)]=some (.agg #[.int .i64 id,.int .i64 kind,.slice none 0 0,o7 n,o7 q,.int .i64 0,.int .i64 0,o7 e0,.slice none 0 0,.bool false,va,.slice none 0 0,.slice none 0 0]):=by
 simp[C0,bm2,J3,Instr.fill,Q5,Q6,P3,hk]
theorem bs3(id kind:Int)(c1 c2 c3 c4:Value):C0 prog 45 [(0,.int .i64 id),(1,.int .i64 kind),(5,.agg #[c1,c2,c3,c4])]=some (.agg #[.int .i64 id,.int .i64 kind,.slice none 0 0,o7 e0,o7 e0,c1,c2,c3,c4,.bool false,.slice none 0 0,.slice none 0 0,.slice none 0 0]):=by
 simp[C0,bm2,J3,Instr.fill,Q5,as2,P3]
theorem bs4(id kind:Int)(n:A6):C0 prog 45 [(0,.int .i64 id),(1,.int .i64 kind),(3,o7 n)]=some (.agg #[.int .i64 id,.int .i64 kind,.slice none 0 0,o7 n,o7 e0,.int .i64 0,.int .i64 0,o7 e0,.slice none 0 0,.bool false,.slice none 0 0,.slice none 0 0,.slice none 0 0]):=by
 simp[C0,bm2,J3,Instr.fill,Q5,Q6,P3]
theorem bs5(id kind:Int)(c1 c2 c3 c4 vt:Value)(hk:vt.cells=#[vt]):C0 prog 45 [(0,.int .i64 id),(1,.int .i64 kind),(5,.agg #[c1,c2,c3,c4]),(8,vt)]=some (.agg #[.int .i64 id,.int .i64 kind,.slice none 0 0,o7 e0,o7 e0,c1,c2,c3,c4,.bool false,.slice none 0 0,vt,.slice none 0 0]):=by
 simp[C0,bm2,J3,Instr.fill,Q5,as2,P3,hk]
theorem bs6(id kind:Int)(c1 c2 c3 c4:Value):C0 prog 45 [(0,.int .i64 id),(1,.int .i64 kind),(6,.bool true),(5,.agg #[c1,c2,c3,c4])]=some (.agg #[.int .i64 id,.int .i64 kind,.slice none 0 0,o7 e0,o7 e0,c1,c2,c3,c4,.bool true,.slice none 0 0,.slice none 0 0,.slice none 0 0]):=by
 simp[C0,bm2,J3,Instr.fill,Q5,aJ8,as2,P3]
theorem ba1(c1 c2 c3 c4:Value):C0 prog 101 [(2,.agg #[c1,c2,c3,c4])]=some (.agg #[.bool false,o7 e0,c1,c2,c3,c4]):=by
 simp[C0,bX1,J3,Instr.fill,as2,P3]
theorem ba2(n:A6):C0 prog 101 [(0,.bool true),(1,o7 n)]=some (.agg #[.bool true,o7 n,.int .i64 0,.int .i64 0,o7 e0,.slice none 0 0]):=by
 simp[C0,bX1,J3,Instr.fill,aJ8,Q6,P3]
theorem bp1(n:A6)(v3 v4:Value)(hk:v3.cells=#[v3])(hk2:v4.cells=#[v4]):C0 prog 51 [(0,o7 n),(2,v3),(3,v4)]=some (.agg #[o7 n,.slice none 0 0,v3,v4,.slice none 0 0]):=by
 simp[C0,cH5,J3,Instr.fill,Q6,P3,hk,hk2]
theorem bp2(n:A6)(v2 v4 v5:Value)(hk:v2.cells=#[v2])(hk2:v4.cells=#[v4])(hk3:v5.cells=#[v5]):C0 prog 51 [(0,o7 n),(1,v2),(4,v5),(3,v4)]=some (.agg #[o7 n,v2,.slice none 0 0,v4,v5]):=by
 simp[C0,cH5,J3,Instr.fill,Q6,P3,hk,hk2,hk3]
theorem bq1(n:A6):C0 prog 68 [(0,o7 n)]=some (.agg #[o7 n,.bool false]):=by
 simp[C0,cf0,J3,Instr.fill,Q6,P3]
theorem bq2(n:A6):C0 prog 68 [(0,o7 n),(1,.bool true)]=some (.agg #[o7 n,.bool true]):=by
 simp[C0,cf0,J3,Instr.fill,aJ8,Q6,P3]
theorem bg1(v1 v2:Value)(hk:v1.cells=#[v1])(hk2:v2.cells=#[v2]):C0 prog 25 [(0,v1),(1,v2)]=some (.agg #[v1,v2]):=by
 simp[C0,cZ9,J3,Instr.fill,hk,hk2]
theorem ce4{N:Nat→Prop}(op:Int)(a b:Ex)(a1 a2 a3 a4 b1 b2 b3 b4:Value)(w:World)(hN:∀b,N b→b<w.heap.size)(ha:SV (B8 w N) (.agg #[a1,a2,a3,a4]) a)(hb:SV (B8 w N) (.agg #[b1,b2,b3,b4]) b):
  Calls prog 51 #[.int .i64 op,.agg #[a1,a2,a3,a4],.agg #[b1,b2,b3,b4]] w fun e w'=>∃u,e = .returned u∧(∃vk,u = .agg #[.int .i64 op,.int .i64 0,o7 e0,vk]∧R (B8 w' N) vk [a,b]∧o6 w w'):=by
 refine d9 (args:=[.int .i64 op,.agg #[a1,a2,a3,a4],.agg #[b1,b2,b3,b4]]) hm func51 rfl (by kernel_rfl) (by show 3≤_;decide +kernel) ?_;obtain⟨d1,w1,hb1,hx1,hat1⟩:=bd0 (w:=w) (fun _=>False) ha (fun b h=>h.elim);obtain⟨d2,w2,hb2,hx2,hat2⟩:=bd0 (w:=w1) (fun _=>False) (hb.mono (noE hx1)) (fun b h=>h.elim);obtain⟨w3,hgt,hal,hx3,hend⟩:=cC0 w2;have hx23:=hx2.trans hx3;have hno:∀{w w':World},o6 w w'→B4 (B8 w fun _=>False) (d7 w'):=fun{w w'} hx=>p6 (B3 _ _) (b7 hx);have l1:=(I4.ex_v ha hat1).1 w3 (hno hx23);have l2:=(I4.ex_v (hb.mono (noE hx1)) hat2).1 w3 (hno hx3);have hx02:=hx1.trans hx2;obtain⟨vk,w4,q1,_,q3,q4,q5,q6⟩:=cY3 (P:=prog) dK0 rfl (w:=w3) (h:=B8 w2 N) (xs:=[.agg #[a1,a2,a3,a4],.agg #[b1,b2,b3,b4]]) (ys:=[a,b]) (parts:=#[(0,.agg #[a1,a2,a3,a4]),(1,.agg #[b1,b2,b3,b4])]) (n:=2) rfl ⟨ha.mono (noE hx02),hb.mono (noE hx02),trivial⟩ rfl (by simp) (by simp) (p6 (B3 _ _) (b7 hx3));have h1c:=V4 q5.isS;obtain⟨w5,e1,e2,e3,e4⟩:=hend w4 #[.int .i64 op,.int .i64 0,o7 Go.Proofs.YtcbnbgpphippoaaGreat.e0,vk] (by rw[ao9];rfl) (fun u hu=>by
  simp only[ey3,eB7,eH8]at hu;rcases hu with rfl|rfl|rfl|rfl
  ·rfl
  ·rfl
  ·rfl
  ·exact h1c) q4
 have hbd:=cr3 op vk q3;simp only[m8,n8,simprocAttr,hb1,hb2,hal,l1,l2,q1,hbd,e1];refine L0 results51 (ad:=⟨w2.heap.size,0,none⟩) (by simp only[p7,simprocAttr]) e2 ?_;refine⟨vk,rfl,?_,(hx1.trans hx2).trans e3⟩;refine(q5.mod e4 fun b h1 h2=>(by have h3:=q6 b h1;omega)).ro (noE e3) fun b hb=>D3 fun h=>?_;have h3:=q6 b hb;have h4:=hN b h;have h5:=hx02.size;omega
theorem dJ3(w:World):∃w0,w.heap.size<w0.heap.size∧(Instr.alloc 25 true (.tuple #[])).run prog w = .ok (.pointer (some ⟨w.heap.size,0,none⟩)) w0∧o6 w w0∧∀(w':World) (cs:Array Value),cs.size=E5 prog 25→(∀u∈cs.toList,u.oneCell'=true)→o6 w0 w' →
  ∃w'',(Instr.storeAt 25 (.pointer (some ⟨w.heap.size,0,none⟩)) (.agg cs)).run prog w' = .ok () w''∧(Instr.loadAt 25 (.pointer (some ⟨w.heap.size,0,none⟩))).run prog w'' = .ok (.agg cs) w''∧o6 w w''∧o9 (fun b=>b=w.heap.size) w' w'':=
 cB9 da9 (by rw[bv6];rfl) (by simp[Value.cells,Value.oneCell']) ce5 cf2 ce7 w
theorem cX5:ag0 prog 49=true:=by kernel_rfl
theorem bH7:ag0 prog 50=true:=by kernel_rfl
theorem dF7:ag0 prog 51=true:=by kernel_rfl
theorem en1:Value.string ⟨#[118]⟩=o7 sV:=rfl
theorem en0:Value.string ⟨#[103]⟩=o7 sG:=rfl
theorem dJ5:Value.string ⟨#[112]⟩=o7 sP:=rfl
theorem dJ6:Value.string ⟨#[120]⟩=o7 sX:=rfl
theorem dJ7:Value.string ⟨#[121]⟩=o7 sY:=rfl
theorem em9:Value.string ⟨#[101]⟩=o7 sE:=rfl
theorem cZ1:Value.string ⟨#[109,97,105,110]⟩=o7 P8:=rfl
theorem cq4(w:World):Calls prog 30 #[] w fun e w'=>∃u,e = .returned u∧(SV (d7 w') u ao6∧o6 w w'):=by
 refine d9 (args:=[]) hm func30 rfl (by kernel_rfl) (by show 0≤_;decide +kernel) ?_;obtain⟨w0,hgt,hal,hx0,hend⟩:=dJ3 w;have hN:∀{w':World},o6 w0 w'→∀b,b=w.heap.size→b<w'.heap.size:=fun{w'} hx b hb=>by have:=hx.size;omega
 obtain⟨v1,w1,q1,r1,k1,x1⟩:=df2 sV (N:=fun b=>b=w.heap.size) w0 (hN (o9.refl _));simp only[m8,simprocAttr,hal,en1,en0,dJ5,dJ6,dJ7,em9,cZ1,q1];refine B7 cX5 (bz9 2 w1) (fun w2 x2=>?_);simp only[m8,simprocAttr,bs1];refine B7 cX5 (bz9 3 w2) (fun w3 x3=>?_);have y3:=(x1.trans x2).trans x3;obtain⟨v4,w4,q4,r4,k4,x4,_,_⟩:=cl9 (P:=prog) (α:=Ar) dJ9 rfl (N:=fun b=>b=w.heap.size) (w:=w3) (hN y3) (xs:=[.agg #[.bool false,o7 e0,.int .i64 1,.int .i64 3,o7 e0,.slice none 0 0],.agg #[.bool true,o7 sV,.int .i64 0,.int .i64 0,o7 e0,.slice none 0 0]]) (ys:=[⟨false,e0,aY2 3⟩,⟨true,sV,.mk 0 0 e0 []⟩]) (parts:=#[(0,.agg #[.bool false,o7 e0,.int .i64 1,.int .i64 3,o7 e0,.slice none 0 0]),(1,.agg #[.bool true,o7 sV,.int .i64 0,.int .i64 0,o7 e0,.slice none 0 0])]) (n:=2) rfl ⟨cZ5 (aq7 H9),cZ5 (aq7 H9),trivial⟩ rfl (by simp) (by simp);have y4:=y3.trans x4;simp only[m8,simprocAttr,ba1,ba2,q4,bs2 _ _ _ _ _ k4];refine B7 bH7 (al3 sV w4) (fun w5 x5=>?_);simp only[m8,simprocAttr,bs3];refine B7 bH7 (al3 sG w5) (fun w6 x6=>?_);have y6:=(y4.trans x5).trans x6;have r4':=A3.mono (noE (x5.trans x6)) r4;obtain⟨v7,w7,q7,r7,k7,x7,_,_⟩:=cl9 (P:=prog) (α:=St) cC6 rfl (N:=fun b=>b=w.heap.size) (w:=w6) (hN y6) (xs:=[.agg #[.int .i64 1,.int .i64 1,.slice none 0 0,o7 sV,o7 e0,.int .i64 1,.int .i64 2,o7 e0,.slice none 0 0,.bool false,.slice none 0 0,.slice none 0 0,.slice none 0 0],.agg #[.int .i64 2,.int .i64 4,.slice none 0 0,o7 sG,o7 sP,.int .i64 0,.int .i64 0,o7 e0,.slice none 0 0,.bool false,v4,.slice none 0 0,.slice none 0 0],.agg #[.int .i64 3,.int .i64 3,.slice none 0 0,o7 e0,o7 e0,.int .i64 2,.int .i64 0,o7 sV,.slice none 0 0,.bool false,.slice none 0 0,.slice none 0 0,.slice none 0 0],.agg #[.int .i64 4,.int .i64 3,.slice none 0 0,o7 e0,o7 e0,.int .i64 2,.int .i64 0,o7 sG,.slice none 0 0,.bool false,.slice none 0 0,.slice none 0 0,.slice none 0 0]]) (ys:=[.mk 1 1 [] sV e0 (aY2 2) false [] [] [],.mk 2 4 [] sG sP (.mk 0 0 e0 []) false [⟨false,e0,aY2 3⟩,⟨true,sV,.mk 0 0 e0 []⟩] [] [],.mk 3 3 [] e0 e0 (Z4 sV) false [] [] [],.mk 4 3 [] e0 e0 (Z4 sG) false [] [] []]) (parts:=#[(0,.agg #[.int .i64 1,.int .i64 1,.slice none 0 0,o7 sV,o7 e0,.int .i64 1,.int .i64 2,o7 e0,.slice none 0 0,.bool false,.slice none 0 0,.slice none 0 0,.slice none 0 0]),(1,.agg #[.int .i64 2,.int .i64 4,.slice none 0 0,o7 sG,o7 sP,.int .i64 0,.int .i64 0,o7 e0,.slice none 0 0,.bool false,v4,.slice none 0 0,.slice none 0 0]),(2,.agg #[.int .i64 3,.int .i64 3,.slice none 0 0,o7 e0,o7 e0,.int .i64 2,.int .i64 0,o7 sV,.slice none 0 0,.bool false,.slice none 0 0,.slice none 0 0,.slice none 0 0]),(3,.agg #[.int .i64 4,.int .i64 3,.slice none 0 0,o7 e0,o7 e0,.int .i64 2,.int .i64 0,o7 sG,.slice none 0 0,.bool false,.slice none 0 0,.slice none 0 0,.slice none 0 0])]) (n:=4) rfl ⟨bb0 H9 (aq7 H9) H9 H9 H9,bb0 H9 (aq7 H9) r4' H9 H9,bb0 H9 (aq7 H9) H9 H9 H9,bb0 H9 (aq7 H9) H9 H9 H9,trivial⟩ rfl (by simp) (by simp);have y7:=y6.trans x7;have hsv1:SV (B8 w7 fun b=>b=w.heap.size) (.agg #[o7 P8,.slice none 0 0,v1,v7,.slice none 0 0]) bl0:=cZ6 H9 (A3.mono (noE (((((x2.trans x3).trans x4).trans x5).trans x6).trans x7)) r1) r7 H9;obtain⟨d1,wz8,w8,hal8,hst8,x8,hat8⟩:=aH0 (w:=w7) (fun b=>b=w.heap.size) hsv1 (hN y7);have y8:=y7.trans x8;obtain⟨v9,w9,q9,r9,k9,x9,_,_⟩:=cl9 (P:=prog) (α:=Pa) dK5 rfl (N:=fun b=>b=w.heap.size) (w:=w8) (hN y8) (xs:=[.agg #[o7 sX,.bool false],.agg #[o7 sY,.bool true]]) (ys:=[⟨sX,false⟩,⟨sY,true⟩]) (parts:=#[(0,.agg #[o7 sX,.bool false]),(1,.agg #[o7 sY,.bool true])]) (n:=2) rfl ⟨⟨_,rfl,rfl⟩,⟨_,rfl,rfl⟩,trivial⟩ rfl (by simp) (by simp);have y9:=y8.trans x9;obtain⟨v10,w10,q10,r10,k10,x10⟩:=df2 sE (N:=fun b=>b=w.heap.size) w9 (hN y9);have y10:=y9.trans x10;simp only[m8,simprocAttr,bs3,q7,bp1 _ _ _ k1 k7,hal8,hst8,bq1,bq2,q9,q10];refine B7 bH7 (al3 sY w10) (fun w11 x11=>?_);simp only[m8,simprocAttr];refine B7 bH7 (al3 sX w11) (fun w12 x12=>?_);have y12:=(y10.trans x11).trans x12;simp only[m8,simprocAttr];refine z6 dF7 (ce4 (N:=fun b=>b=w.heap.size) 8 (Z4 sY) (Z4 sX) _ _ _ _ _ _ _ _ w12 (hN y12) (aq7 H9) (aq7 H9)) ?_;rintro _ w13 ⟨v13,rfl,r13,x13⟩;have y13:=y12.trans x13;simp only[m8,simprocAttr,bs1];refine B7 bH7 (al3 sY w13) (fun w14 x14=>?_);simp only[m8,simprocAttr];refine B7 cX5 (bz9 9 w14) (fun w15 x15=>?_);have y15:=(y13.trans x14).trans x15;simp only[m8,simprocAttr];refine z6 dF7 (ce4 (N:=fun b=>b=w.heap.size) 12 (Z4 sY) (aY2 9) _ _ _ _ _ _ _ _ w15 (hN y15) (aq7 H9) (aq7 H9)) ?_;rintro _ w16 ⟨v16,rfl,r16,x16⟩;have y16:=y15.trans x16;obtain⟨v17,w17,q17,r17,k17,x17,_,_⟩:=cl9 (P:=prog) (α:=St) cC6 rfl (N:=fun b=>b=w.heap.size) (w:=w16) (hN y16) (xs:=[.agg #[.int .i64 7,.int .i64 10,.slice none 0 0,o7 sE,o7 e0,.int .i64 0,.int .i64 0,o7 e0,.slice none 0 0,.bool false,.slice none 0 0,.slice none 0 0,.slice none 0 0]]) (ys:=[.mk 7 10 [] sE e0 (.mk 0 0 e0 []) false [] [] []]) (parts:=#[(0,.agg #[.int .i64 7,.int .i64 10,.slice none 0 0,o7 sE,o7 e0,.int .i64 0,.int .i64 0,o7 e0,.slice none 0 0,.bool false,.slice none 0 0,.slice none 0 0,.slice none 0 0])]) (n:=1) rfl ⟨bb0 H9 (aq7 H9) H9 H9 H9,trivial⟩ rfl (by simp) (by simp);have y17:=y16.trans x17;simp only[m8,simprocAttr,bs4,q17,bs5 _ _ _ _ _ _ _ k17];refine B7 bH7 (al3 sY w17) (fun w18 x18=>?_);have y18:=y17.trans x18;have r17':=A3.mono (noE x18) r17;have r16':=A3.mono (noE (x17.trans x18)) r16;have r13':=A3.mono (noE ((((x14.trans x15).trans x16).trans x17).trans x18)) r13;obtain⟨v19,w19,q19,r19,k19,x19,_,_⟩:=cl9 (P:=prog) (α:=St) cC6 rfl (N:=fun b=>b=w.heap.size) (w:=w18) (hN y18) (xs:=[.agg #[.int .i64 5,.int .i64 1,.slice none 0 0,o7 sY,o7 e0,.int .i64 8,.int .i64 0,o7 e0,v13,.bool false,.slice none 0 0,.slice none 0 0,.slice none 0 0],.agg #[.int .i64 6,.int .i64 5,.slice none 0 0,o7 e0,o7 e0,.int .i64 12,.int .i64 0,o7 e0,v16,.bool false,.slice none 0 0,v17,.slice none 0 0],.agg #[.int .i64 8,.int .i64 9,.slice none 0 0,o7 e0,o7 e0,.int .i64 2,.int .i64 0,o7 sY,.slice none 0 0,.bool true,.slice none 0 0,.slice none 0 0,.slice none 0 0]]) (ys:=[.mk 5 1 [] sY e0 (cb6 8 (Z4 sY) (Z4 sX)) false [] [] [],.mk 6 5 [] e0 e0 (cb6 12 (Z4 sY) (aY2 9)) false [] [.mk 7 10 [] sE e0 (.mk 0 0 e0 []) false [] [] []] [],.mk 8 9 [] e0 e0 (Z4 sY) true [] [] []]) (parts:=#[(0,.agg #[.int .i64 5,.int .i64 1,.slice none 0 0,o7 sY,o7 e0,.int .i64 8,.int .i64 0,o7 e0,v13,.bool false,.slice none 0 0,.slice none 0 0,.slice none 0 0]),(1,.agg #[.int .i64 6,.int .i64 5,.slice none 0 0,o7 e0,o7 e0,.int .i64 12,.int .i64 0,o7 e0,v16,.bool false,.slice none 0 0,v17,.slice none 0 0]),(2,.agg #[.int .i64 8,.int .i64 9,.slice none 0 0,o7 e0,o7 e0,.int .i64 2,.int .i64 0,o7 sY,.slice none 0 0,.bool true,.slice none 0 0,.slice none 0 0,.slice none 0 0])]) (n:=3) rfl ⟨bb0 H9 (aq7 r13') H9 H9 H9,bb0 H9 (aq7 r16') H9 r17' H9,bb0 H9 (aq7 H9) H9 H9 H9,trivial⟩ rfl (by simp) (by simp);have y19:=y18.trans x19;have z9:o6 w9 w19:=((((((((x10.trans x11).trans x12).trans x13).trans x14).trans x15).trans x16).trans x17).trans x18).trans x19;have z10:o6 w10 w19:=(((((((x11.trans x12).trans x13).trans x14).trans x15).trans x16).trans x17).trans x18).trans x19;have hsv2:SV (B8 w19 fun b=>b=w.heap.size) (.agg #[o7 sP,v9,.slice none 0 0,v19,v10]) bl1:=cZ6 (A3.mono (noE z9) r9) H9 r19 (A3.mono (noE z10) r10);obtain⟨d2,wz20,w20,hal20,hst20,x20,hat20⟩:=aH0 (w:=w19) (fun b=>b=w.heap.size) hsv2 (hN y19);have y20:=y19.trans x20;obtain⟨v21,w21,q21,r21,k21,x21⟩:=df2 sG (N:=fun b=>b=w.heap.size) w20 (hN y20);have y21:=y20.trans x21;have z8:o6 w8 w21:=((x9.trans z9).trans x20).trans x21;have l1:=(I4.pr_v hsv1 hat8).1 w21 (p6 (noE z8) (B3 _ _));have l2:=(I4.pr_v hsv2 hat20).1 w21 (p6 (noE x21) (B3 _ _));obtain⟨v22,w22,q22,r22,k22,x22,_,_⟩:=cl9 (P:=prog) (α:=Pr) dK6 rfl (N:=fun b=>b=w.heap.size) (w:=w21) (hN y21) (xs:=[.agg #[o7 P8,.slice none 0 0,v1,v7,.slice none 0 0],.agg #[o7 sP,v9,.slice none 0 0,v19,v10]]) (ys:=[bl0,bl1]) (parts:=#[(0,.agg #[o7 P8,.slice none 0 0,v1,v7,.slice none 0 0]),(1,.agg #[o7 sP,v9,.slice none 0 0,v19,v10])]) (n:=2) rfl ⟨hsv1.mono (noE (x8.trans z8)),hsv2.mono (noE (x20.trans x21)),trivial⟩ rfl (by simp) (by simp);have y22:=y21.trans x22;have r21':=A3.mono (noE x22) r21;have h21c:=W4 r21;have h22c:=W4 r22;obtain⟨w23,e1,e2,e3,e4⟩:=hend w22 #[v21,v22] (by rw[bv6];rfl) (fun u hu=>by
  simp only[ey3,eB7,eH8]at hu;rcases hu with rfl|rfl
  ·exact h21c
  ·exact h22c) y22
 simp only[m8,simprocAttr,bs6,q19,bp2 _ _ _ _ k9 k19 k10,hal20,hst20,q21,l1,l2,q22,bg1 _ _ k21 k22,e1];refine L0 results30 (ad:=⟨w.heap.size,0,none⟩) (by simp only[p7,simprocAttr]) e2 ?_;refine⟨?_,e3⟩;have hh:B4 (B8 w22 fun b=>b=w.heap.size) (d7 w23):=I0 (B3 _ _) e4 fun b hb=>H3 hb;exact dL3 (A3.mono hh r21') (A3.mono hh r22)
theorem er2:ag0 prog 11=true:=by kernel_rfl
theorem dF0:ag0 prog 13=true:=by kernel_rfl
theorem er4:ag0 prog 18=true:=by kernel_rfl
theorem er5:ag0 prog 19=true:=by kernel_rfl
theorem dF2:ag0 prog 27=true:=by kernel_rfl
theorem es0:ag0 prog 30=true:=by kernel_rfl
theorem es1:ag0 prog 31=true:=by kernel_rfl
theorem bd7:D6 ao6≤1000000:=by decide +kernel
theorem cC7:(ab5 ao6 sP).length≤1000000000∧(bl6 ao6 sP).length≤1000000000∧(bh0 ao6 sP).length≤1000000000:=by decide +kernel
theorem aS8(q:A6)(k d:Int):C0 prog 36 [(0,o7 q),(1,.int .i64 k),(2,.int .i64 d)]=some (.agg (t8.cells (⟨q,k,d,e0⟩:Vx)).toArray):=by
 have hfc:t8.cells (⟨q,k,d,e0⟩:Vx)=[o7 q,.int .i64 k,.int .i64 d,o7 e0]:=rfl;rw[hfc];simp[C0,ce8,J3,Instr.fill,Q5,Q6,P3]
theorem aS9(q:A6)(k:Int)(n:A6):C0 prog 36 [(0,o7 q),(1,.int .i64 k),(3,o7 n)]=some (.agg (t8.cells (⟨q,k,0,n⟩:Vx)).toArray):=by
 have hfc:t8.cells (⟨q,k,0,n⟩:Vx)=[o7 q,.int .i64 k,.int .i64 0,o7 n]:=rfl;rw[hfc];simp[C0,ce8,J3,Instr.fill,Q5,Q6,P3]
theorem en2:Value.string ⟨#[36,114,101,116]⟩=o7 O1:=rfl
theorem bo4(w:World):Calls prog 7 #[] w fun e w'=>∃u,e = .returned u∧(u = .bool true∧o6 w w'):=by
 refine d9 (args:=[]) hm func7 rfl (by kernel_rfl) (by show 0≤_;decide +kernel) ?_;simp only[m8,simprocAttr];refine z6 es0 (cq4 w) ?_;rintro u w1 ⟨hu,hx1⟩;obtain⟨d,wz,w2,hal,hst,hx2,hat⟩:=cV3 hu (i4 _);obtain⟨sp,hsp,ldp,_⟩:=hat.pg_v;have l2:=ldp w2 (i4 _);simp only[m8,simprocAttr,hal,hst,l2,dJ5];refine z6 dF0 (aP4 sp ao6 sP w2 hsp bd7) ?_;rintro ue w3 ⟨hoe,hx3⟩;have l3:=ldp w3 (b7 hx3);simp only[m8,simprocAttr,l3];refine z6 er4 (bA9 sp ao6 sP w3 (hsp.mono (b7 hx3)) bd7) ?_;rintro ut w4 ⟨hot,hx4⟩;rw[bV5]at hot;obtain⟨u5,w5,q5,o5,x5,_⟩:=cz4 sX sY w4 (i4 _);simp only[m8,simprocAttr,dJ6,dJ7,q5];refine B7 dF2 (aY1 ut u5 [sX,sY] [sX,sY] w5 ((hot.ext x5).rw_ (b7 (hx4.trans x5))) (o5.rw_ (b7 x5)) (by simp)) (fun w6 hx6=>?_);have hx36:=(hx4.trans x5).trans hx6;have hx26:=hx3.trans hx36;have l6:=ldp w6 (b7 hx26);simp only[m8,n8,simprocAttr,l6];refine z6 er5 (bA8 sp ao6 sP w6 (hsp.mono (b7 hx26)) bd7) ?_;rintro ug w7 ⟨hog,hx7⟩;rw[bV4]at hog;obtain⟨u8,w8,q8,o8,x8,_⟩:=cz4 O1 sY w7 (i4 _);simp only[m8,simprocAttr,en2,q8];refine B7 dF2 (aY1 ug u8 [O1,sY] [O1,sY] w8 ((hog.ext x8).rw_ (b7 (hx7.trans x8))) (o8.rw_ (b7 x8)) (by simp)) (fun w9 hx9=>?_);have hx29:=((hx26.trans hx7).trans x8).trans hx9;have l9:=ldp w9 (b7 hx29);simp only[m8,n8,simprocAttr,l9,cZ1];refine z6 er2 (bc3 sp ao6 P8 w9 (hsp.mono (b7 hx29)) bd7) ?_;rintro uv w10 ⟨hov,hx10⟩;have hSv:=hov.isS;have hnv:=hov.vlen;rw[bV6]at hnv;have h11:decide (((11:Nat):Int)=11)=true:=rfl;have hx210:=hx29.trans hx10;have hx310:=(((hx36.trans hx7).trans x8).trans hx9).trans hx10;have hoe10:=(hoe.ext hx310).rw_ (b7 hx210);have b1:=aS8 sP 2 5;have b2:=aS9 sP 4 sY;simp only[m8,n8,simprocAttr,hSv,hnv,b1,b2];refine B7 es1 (bK5 ue (ab5 ao6 sP) ⟨sP,2,5,e0⟩ ⟨sP,4,0,sY⟩ 2 w10 hoe10 cC7.1) (fun w11 hx11=>?_);have hany:(ab5 ao6 sP).any (ad9 ⟨sP,2,5,e0⟩ ⟨sP,4,0,sY⟩ 2)=true:=eJ7.2 ⟨_,ez2.1 co3,rfl⟩;simp only[m8,simprocAttr,hany];refine n9 results7 ?_;simp only[p7,simprocAttr];exact⟨by trivial,(hx1.trans hx2).trans (hx210.trans hx11)⟩
theorem es2:ag0 prog 36=true:=by kernel_rfl
theorem es3:ag0 prog 37=true:=by kernel_rfl
theorem dG2:ag0 prog 95=true:=by kernel_rfl
theorem ba3(x y:Vx)(w:World):Calls prog 95 #[.agg (t8.cells x).toArray,.agg (t8.cells y).toArray] w fun e w'=>∃u,e = .returned u∧(u = .bool (bt1 x y)∧o6 w w'):=by
 refine d9 (args:=[.agg (t8.cells x).toArray,.agg (t8.cells y).toArray]) hm func95 rfl (by kernel_rfl) (by show 2≤_;decide +kernel) ?_;obtain⟨d1,w1,hb1,hx1,hat1⟩:=bc9 (SV.ofN (d7 w) x) (i4 _);obtain⟨d2,w2,hb2,hx2,hat2⟩:=bc9 (SV.ofN (d7 w1) y) (i4 _);have l1:=hat1.vx.1 w2 (b7 hx2);have l2:=hat2.vx.1 w2 (i4 _);have hx:=hx1.trans hx2;unfold bt1;rcases ew5 (decide (x.proc=y.proc))with h1|h1;rotate_left
 ·rw[if_pos (ew9 h1)];simp only[m8,n8,simprocAttr,hb1,hb2,l1,l2,h1];refine n9 results95 ?_;simp only[p7,simprocAttr];exact⟨by trivial,hx⟩
 rw[if_neg (by simpa using ew8 h1)];rcases ew5 (decide (x.kind=y.kind))with h2|h2;rotate_left
 ·rw[if_pos (ew9 h2)];simp only[m8,n8,simprocAttr,hb1,hb2,l1,l2,h1,h2];refine n9 results95 ?_;simp only[p7,simprocAttr];exact⟨by trivial,hx⟩
 rw[if_neg (by simpa using ew8 h2)];rcases ew5 (decide (x.id=y.id))with h3|h3;rotate_left
 ·rw[if_pos (ew9 h3)];simp only[m8,n8,simprocAttr,hb1,hb2,l1,l2,h1,h2,h3];refine n9 results95 ?_;simp only[p7,simprocAttr];exact⟨by trivial,hx⟩
 rw[if_neg (by simpa using ew8 h3)];simp only[m8,n8,simprocAttr,hb1,hb2,l1,l2,h1,h2,h3];refine n9 results95 ?_;simp only[p7,simprocAttr];exact⟨by trivial,hx⟩
theorem aV0(x y:Eg)(w:World):Calls prog 48 #[.agg (t8.cells x).toArray,.agg (t8.cells y).toArray] w fun e w'=>∃u,e = .returned u∧(u = .bool (I9 x y)∧o6 w w'):=by
 refine d9 (args:=[.agg (t8.cells x).toArray,.agg (t8.cells y).toArray]) hm func48 rfl (by kernel_rfl) (by show 2≤_;decide +kernel) ?_;obtain⟨d1,w1,hb1,hx1,hat1⟩:=bZ5 (SV.ofN (d7 w) x) (i4 _);obtain⟨d2,w2,hb2,hx2,hat2⟩:=bZ5 (SV.ofN (d7 w1) y) (i4 _);obtain⟨hs1,ht1,lk1,_⟩:=hat1.eg;obtain⟨hs2,ht2,lk2,_⟩:=hat2.eg;obtain⟨sv1,hsv1,la1,_⟩:=hs1.vx_v;obtain⟨sv2,hsv2,la2,_⟩:=hs2.vx_v;obtain⟨sv3,hsv3,la3,_⟩:=ht1.vx_v;obtain⟨sv4,hsv4,la4,_⟩:=ht2.vx_v;obtain rfl:=hsv1.N;obtain rfl:=hsv2.N;obtain rfl:=hsv3.N;obtain rfl:=hsv4.N;have l1:=la1 w2 (b7 hx2);have l2:=la2 w2 (i4 _);have l3:=la3 w2 (b7 hx2);have l4:=la4 w2 (i4 _);have l5:=lk1 w2 (b7 hx2);have l6:=lk2 w2 (i4 _);have hx:=hx1.trans hx2;have hq1:=fun w0 a b=>cA1 w0 a b x.src y.src;have hq2:=fun w0 a b=>cA1 w0 a b x.dst y.dst;have hL1:=ba3 x.src y.src w2;have hL2:=ba3 x.dst y.dst w2;simp only[t8.cells]at hb1 hb2 l1 l2 l3 l4 hL1 hL2;unfold I9;rcases ew5 (decide (x.src=y.src))with h1|h1;rotate_left
 ·rw[if_pos (ew9 h1)];simp only[m8,n8,simprocAttr,hb1,hb2,l1,l2,L9,t8.cells,hq1,h1];refine B7 dG2 hL1 (fun w3 hx3=>?_);simp only[m8,simprocAttr];refine n9 results48 ?_;simp only[p7,simprocAttr];exact⟨by trivial,hx.trans hx3⟩
 rw[if_neg (by simpa using ew8 h1)];rcases ew5 (decide (x.dst=y.dst))with h2|h2;rotate_left
 ·rw[if_pos (ew9 h2)];simp only[m8,n8,simprocAttr,hb1,hb2,l1,l2,l3,l4,L9,t8.cells,hq1,hq2,h1,h2];refine B7 dG2 hL2 (fun w3 hx3=>?_);simp only[m8,simprocAttr];refine n9 results48 ?_;simp only[p7,simprocAttr];exact⟨by trivial,hx.trans hx3⟩
 rw[if_neg (by simpa using ew8 h2)];simp only[m8,n8,simprocAttr,hb1,hb2,l1,l2,l3,l4,l5,l6,L9,t8.cells,hq1,hq2,h1,h2];refine n9 results48 ?_;simp only[p7,simprocAttr];exact⟨by trivial,hx⟩
def aG2(p:Pg)(n:Int):A6:=(p.procs.getD (bi8 n p.procs.length).toNat bo8).name
theorem cd2{n m:Int}(h:0<m):0≤bi8 n m∧bi8 n m<m:=by
 unfold bi8;rw[if_neg (by omega)];have h1:=Int.tmod_lt_of_pos n h;have h2 : -m<n.tmod m:=by
  have:=Int.lt_tmod_of_pos n h;exact this
 split<;>omega
theorem bp0(v:Value)(p:Pg)(n:Int)(w:World)(hv:SV (d7 w) v p)(h0:0<p.procs.length)(hl:p.procs.length≤1000000000):
  Calls prog 10 #[v,.int .i64 n] w fun e w'=>∃u,e = .returned u∧(u=o7 (aG2 p n)∧o6 w w'):=by
 refine d9 (args:=[v,.int .i64 n]) hm func10 rfl (by kernel_rfl) (by show 2≤_;decide +kernel) ?_;obtain⟨c,w1,hbx,hx1,hatp⟩:=R3 hv (i4 _);obtain⟨vg,vp,hvg,hvp,ldp,sdp⟩:=hatp.pg;have l1:=ldp w1 (i4 _);have hSp:=hvp.isS;have hnp:=hvp.vlen;have hrg:=cd2 (n:=n) (m:=(p.procs.length:Int)) (by omega);obtain⟨k,hk⟩:∃k:Nat,bi8 n (p.procs.length:Int)=(k:Int):=⟨(bi8 n (p.procs.length:Int)).toNat,by omega⟩;have hkl:k<p.procs.length:=by omega
 have hF:aG2 p n=p.procs[k].name:=by
  unfold aG2;rw[hk,ez1,List.getD,ew4 hkl];rfl
 have hin:=hvp.inS (k:=k) hkl;have hat:=hvp.at_ (i:=k) (x:=p.procs[k]) (ew4 hkl);have hz5:A3.sz Pr=5:=rfl;rw[hz5]at hat;obtain⟨_,_,_,_,_,_,_,_,ldr,sdr⟩:=hat.pr;have t1:=sdp (fun w'=>o6 w1.drew w') w1.drew (o9.refl _) fun w' h=>b7 ((o6.drew w1).trans h);have t2:=sdr (fun w'=>o6 w1.drew w') w1.drew (o9.refl _) fun w' h=>b7 ((o6.drew w1).trans h);have lr:=ldr w1.drew (b7 (o6.drew w1));have hm1:=cO5 n (p.procs.length:Int) w1.drew (by omega);rw[hk]at hm1;rw[hF];generalize p.procs[k].name=nm at lr t2;generalize hz:((p.procs.length:Nat):Int)=L at hnp hm1;have h00:decide (L=0)=false:=eH5 (by omega);simp only[m8,n8,simprocAttr,hbx,l1,hSp,hnp,hz,h00];refine C2 (fun w'=>o6 w1.drew w') 7 (B0 [0,1,2,3,4,5,6]) (by decide +kernel) (o9.refl _) ?_;simp only[D5,B0,m8,n8,simprocAttr,t1,hSp,hnp,hz];refine D1 es3 hm1 ⟨o9.refl _,?_⟩;simp only[D5,m8,n8,v8,simprocAttr,hin,lr];refine n9 results10 ?_;simp only[p7,simprocAttr];exact⟨by trivial,hx1.trans (o6.drew w1)⟩
theorem bL7(v:Value)(p:Pg)(most:Int)(w:World)(hv:SV (d7 w) v p)(hw:D6 p≤1000000):
  Calls prog 9 #[v,.int .i64 most] w fun e w'=>∃u,e = .returned u∧(u = .bool (ac2 p&&decide ((bx8 p:Int)≤most))∧o6 w w'):=by
 refine d9 (args:=[v,.int .i64 most]) hm func9 rfl (by kernel_rfl) (by show 2≤_;decide +kernel) ?_;obtain⟨c,w1,hbx,hx1,hatp⟩:=R3 hv (i4 _);obtain⟨sp,hsp,ldsp,_⟩:=hatp.pg_v;have l1:=ldsp w1 (i4 _);simp only[m8,n8,simprocAttr,hbx,l1];refine B7 dF3 (aM2 sp p w1 hsp hw) (fun w2 hx2=>?_);rcases ew5 (ac2 p)with h1|h1;rotate_left
 ·simp only[m8,simprocAttr,h1];refine n9 results9 ?_;simp only[p7,simprocAttr];exact⟨by trivial,hx1.trans hx2⟩
 have l2:=ldsp w2 (b7 hx2);simp only[m8,n8,simprocAttr,h1,l2];refine B7 es2 (cg4 sp p w2 (hsp.mono (b7 hx2)) hw) (fun w3 hx3=>?_);simp only[m8,n8,simprocAttr];refine n9 results9 ?_;simp only[p7,simprocAttr];exact⟨by trivial,(hx1.trans hx2).trans hx3⟩
end Go.Proofs.YtcbnbgpphippoaaGreat

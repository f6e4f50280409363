/- pdgControl.proved: for every input the law returns true. No condition. Part 5 of 7. -/
import Derived.Laws.IdiomRangeMap
import Derived.Test.YtcbnbgpphippoaaGreatZ4
set_option maxRecDepth 1000000
set_option maxHeartbeats 8000000
set_option linter.unusedVariables false
set_option linter.unusedSimpArgs false
set_option linter.unnecessarySimpa false
set_option linter.defProp false
namespace Go.Proofs.YtcbnbgpphippoaaGreat
open Go Tryz
section
variable {P:Program} {h:Hp} {w:World} {t T:TypeId} {v:Value}
theorem Z4.set{xs:List Int}(ho:Z4 h w T v xs){k:Nat}(hk:k<xs.length)(y:Int){inf:TypeInfo}(hinf:P.info? t=some inf)(hs:inf.size=1):
  ∃w',(Instr.storeAt t (.pointer (some (H5 v k))) (.int .i64 y)).run P w = .ok () w'∧Z4 h w' T v (xs.set k y)∧o9 (A3 v) w w':=by
 rcases ho with⟨rfl,rfl⟩|⟨b,off,c,cur,rfl,h1,h2,h3,h4,h5,h6⟩
 ·simp at hk
 ·have ha:(⟨b,off,.none⟩:Addr).add k=⟨b,off+k,.none⟩:=by unfold Addr.add;split<;>simp_all
  obtain⟨w',s1,s2,s3⟩:=ai0 (P:=P) (t:=t) (i:=off+k) (x:=.int .i64 y) h2 (by omega) rfl rfl hinf hs;refine⟨w',by simp only[H5,ha];exact s1,.inr ⟨b,off,c,_,by simp,h1,s2,by simpa using h3,h4,by simpa using h5,fun j x hj=>?_⟩,s3.weaken fun b' _ hb=>by subst hb;rfl⟩;rw[Array.getElem?_setIfInBounds];rw[List.getElem?_set]at hj;by_cases hkj:k=j
  ·subst hkj;rw[if_pos rfl,if_pos hk]at hj;obtain rfl:=ex1 hj;rw[if_pos rfl,if_pos (by omega)]
  ·rw[if_neg hkj]at hj;rw[if_neg (by omega)];exact h6 j x hj
end
structure ST (w0 w:World) (rb gb:Nat) (ui uw vt:Value) (us:List Z0) (ins:List (List W)) (waits:List Bool) (todo:List Int) (T:Int):Prop where
 rows:K1 (d7 w0) w 275 220 ui us ins
 wts:A8 (d7 w0) w 4 uw waits
 q:Z4 (d7 w0) w 3 vt todo
 cg:w.heap[gb]?=some (.cells #[.slice none 0 0,.int .i64 T] 189 (0,0))
 cr:w.heap[rb]?=some (.cells #[.slice none 0 0,.int .i64 0] 189 (0,0))
 d1:∀b,K6 ui us b→¬A3 vt b∧¬A3 uw b∧b≠gb∧b≠rb
 d2:∀b,A3 vt b→¬A3 uw b∧b≠gb∧b≠rb
 d3:∀b,A3 uw b→b≠gb∧b≠rb
 d4:gb≠rb
 ext:o6 w0 w
 fg:w0.heap.size≤gb
 frb:w0.heap.size≤rb
section
variable {w0 w:World} {rb gb:Nat} {ui uw vt:Value} {us:List Z0} {ins:List (List W)} {waits:List Bool} {todo:List Int} {T:Int}
theorem ST.lg(s:ST w0 w rb gb ui uw vt us ins waits todo T):gb<w.heap.size:=(ew1.1 s.cg).1
theorem ST.lr(s:ST w0 w rb gb ui uw vt us ins waits todo T):rb<w.heap.size:=(ew1.1 s.cr).1
theorem ST.ge(s:ST w0 w rb gb ui uw vt us ins waits todo T){b:Nat}(hb:d7 w0 b=none):w0.heap.size≤b:=
 eI8 fun hlt=>by simp[d7,hlt]at hb
theorem ST.more(s:ST w0 w rb gb ui uw vt us ins waits todo T){w':World}(hx:o6 w w'):ST w0 w' rb gb ui uw vt us ins waits todo T:=
 ⟨s.rows.ext hx,s.wts.ext hx,s.q.ext hx,(hx.block gb s.lg id).trans s.cg,(hx.block rb s.lr id).trans s.cr,s.d1,s.d2,s.d3,s.d4,s.ext.trans hx,s.fg,s.frb⟩
theorem ST.wait{P:Program}{t:TypeId}(s:ST w0 w rb gb ui uw vt us ins waits todo T){k:Nat}(hk:k<waits.length)(y:Bool){inf:TypeInfo}(hinf:P.info? t=some inf)(hs:inf.size=1):
  ∃w',(Instr.storeAt t (.pointer (some (H5 uw k))) (.bool y)).run P w = .ok () w'∧ST w0 w' rb gb ui uw vt us ins (waits.set k y) todo T:=by
 obtain⟨w',s1,s2,s3,s4⟩:=E0 (P:=P) (t:=t) s.wts rfl hk (x:=.bool y) (y:=y) rfl rfl hinf hs;refine⟨w',s1,s.rows.mod s3 fun b hb=>(s.d1 b hb).2.1,s2,s.q.mod s3 fun b hb=>(s.d2 b hb).1,(s3.block gb s.lg fun h=>(s.d3 gb h).1 rfl).trans s.cg,(s3.block rb s.lr fun h=>(s.d3 rb h).2 rfl).trans s.cr,s.d1,s.d2,s.d3,s.d4,o9.ext_of s.ext s3 fun b hb=>s.ge (s.wts.free hb),s.fg,s.frb⟩
theorem ST.wait2{P:Program}{t:TypeId}(s:ST w0 w rb gb ui uw vt us ins waits todo T){k:Nat}(hk:k<waits.length)(y:Bool){inf:TypeInfo}(hinf:P.info? t=some inf)(hs:inf.size=1):
  ∃w',(Instr.storeAt t (.pointer (some (H5 uw k))) (.bool y)).run P w = .ok () w'∧ST w0 w' rb gb ui uw vt us ins (waits.set k y) todo T∧o9 (A3 uw) w w':=by
 obtain⟨w',s1,s2,s3,s4⟩:=E0 (P:=P) (t:=t) s.wts rfl hk (x:=.bool y) (y:=y) rfl rfl hinf hs;refine⟨w',s1,⟨s.rows.mod s3 fun b hb=>(s.d1 b hb).2.1,s2,s.q.mod s3 fun b hb=>(s.d2 b hb).1,(s3.block gb s.lg fun h=>(s.d3 gb h).1 rfl).trans s.cg,(s3.block rb s.lr fun h=>(s.d3 rb h).2 rfl).trans s.cr,s.d1,s.d2,s.d3,s.d4,o9.ext_of s.ext s3 fun b hb=>s.ge (s.wts.free hb),s.fg,s.frb⟩,s3⟩
theorem ST.times{P:Program}{t:TypeId}(s:ST w0 w rb gb ui uw vt us ins waits todo T)(T':Int){inf:TypeInfo}(hinf:P.info? t=some inf)(hs:inf.size=1):
  ∃w',(Instr.storeAt t (.pointer (some ⟨gb,1,none⟩)) (.int .i64 T')).run P w = .ok () w'∧ST w0 w' rb gb ui uw vt us ins waits todo T':=by
 obtain⟨w',s1,s2,s3⟩:=ai0 (P:=P) (t:=t) (i:=1) (x:=.int .i64 T') s.cg (by simp) rfl rfl hinf hs;refine⟨w',s1,s.rows.mod s3 fun b hb=>(s.d1 b hb).2.2.1,s.wts.mod s3 fun b hb=>(s.d3 b hb).1,s.q.mod s3 fun b hb=>(s.d2 b hb).2.1,s2,(s3.block rb s.lr fun h=>s.d4 h.symm).trans s.cr,s.d1,s.d2,s.d3,s.d4,o9.ext_of s.ext s3 fun b hb=>by subst hb;exact s.fg,s.fg,s.frb⟩
theorem ST.tail{x:Int}{rest:List Int}(s:ST w0 w rb gb ui uw vt us ins waits (x::rest) T):ST w0 w rb gb ui uw (reS vt 1 (rest.length+1) 1) us ins waits rest T:=by
 obtain⟨h1,h2⟩:=s.q.tail;exact⟨s.rows,s.wts,h1,s.cg,s.cr,fun b hb=>⟨fun h=>(s.d1 b hb).1 ((h2 b).1 h),(s.d1 b hb).2⟩,fun b hb=>s.d2 b ((h2 b).1 hb),s.d3,s.d4,s.ext,s.fg,s.frb⟩
theorem ST.push{P:Program}{t e:TypeId}{by_:Nat}(hsl:F3 P t 3 1 by_=true)(s:ST w0 w rb gb ui uw vt us ins waits todo T)(y:Int)(hl:todo.length+1≤1000000000000)(hb:(todo.length+1)*by_≤140737488355328):
  (Instr.buildSlice t 1 #[(0,.int .i64 y)]).run P w = .ok (.slice (some ⟨w.heap.size,0,none⟩) 1 1) (w.alloc (.cells #[.int .i64 y] 3)) ∧
  ∃v' w',(Builtin.append_ #[t,t] e #[vt,.slice (some ⟨w.heap.size,0,none⟩) 1 1]).run P (w.alloc (.cells #[.int .i64 y] 3)) = .ok v' w'∧ST w0 w' rb gb ui uw v' us ins waits (todo++[y]) T:=by
 obtain⟨h1,v',w',h2,h3,h4,h5⟩:=s.q.push (e:=e) hsl y hl hb (b7 s.ext);refine⟨h1,v',w',h2,s.rows.mod h4 fun b hb=>(s.d1 b hb).1,s.wts.mod h4 fun b hb hb2=>(s.d2 b hb2).1 hb,h3,(h4.block gb s.lg fun h=>(s.d2 gb h).2.1 rfl).trans s.cg,(h4.block rb s.lr fun h=>(s.d2 rb h).2.2 rfl).trans s.cr,fun b hb=>⟨fun h=>?_,(s.d1 b hb).2⟩,fun b hb=>?_,s.d3,s.d4,o9.ext_of s.ext h4 fun b hb=>s.ge (s.q.free hb),s.fg,s.frb⟩
 ·rcases h5 b h with h|h
  ·exact(s.d1 b hb).1 h
  ·have:=s.rows.lt hb;omega
 ·rcases h5 b hb with h|h
  ·exact s.d2 b h
  ·exact⟨fun hh=>by have:=s.wts.lt hh;omega,by have:=s.lg;omega,by have:=s.lr;omega⟩
theorem ST.push2{P:Program}{t e:TypeId}{by_:Nat}(hsl:F3 P t 3 1 by_=true)(s:ST w0 w rb gb ui uw vt us ins waits todo T)(y:Int)(hl:todo.length+1≤1000000000000)(hb:(todo.length+1)*by_≤140737488355328):
  (Instr.buildSlice t 1 #[(0,.int .i64 y)]).run P w = .ok (.slice (some ⟨w.heap.size,0,none⟩) 1 1) (w.alloc (.cells #[.int .i64 y] 3)) ∧
  ∃v' w',(Builtin.append_ #[t,t] e #[vt,.slice (some ⟨w.heap.size,0,none⟩) 1 1]).run P (w.alloc (.cells #[.int .i64 y] 3)) = .ok v' w'∧ST w0 w' rb gb ui uw v' us ins waits (todo++[y]) T∧o9 (A3 vt) w w'∧E8 w vt v':=by
 obtain⟨h1,v',w',h2,h3,h4,h5⟩:=s.q.push (e:=e) hsl y hl hb (b7 s.ext);refine⟨h1,v',w',h2,⟨s.rows.mod h4 fun b hb=>(s.d1 b hb).1,s.wts.mod h4 fun b hb hb2=>(s.d2 b hb2).1 hb,h3,(h4.block gb s.lg fun h=>(s.d2 gb h).2.1 rfl).trans s.cg,(h4.block rb s.lr fun h=>(s.d2 rb h).2.2 rfl).trans s.cr,fun b hb=>⟨fun h=>?_,(s.d1 b hb).2⟩,fun b hb=>?_,s.d3,s.d4,o9.ext_of s.ext h4 fun b hb=>s.ge (s.q.free hb),s.fg,s.frb⟩,h4,h5⟩
 ·rcases h5 b h with h|h
  ·exact(s.d1 b hb).1 h
  ·have:=s.rows.lt hb;omega
 ·rcases h5 b hb with h|h
  ·exact s.d2 b h
  ·exact⟨fun hh=>by have:=s.wts.lt hh;omega,by have:=s.lg;omega,by have:=s.lr;omega⟩
theorem ST.row(s:ST w0 w rb gb ui uw vt us ins waits todo T){w':World}{i:Nat}{u:Z0}(hi:us[i]?=some u){r:List W}(hm:o9 (A3 u.v) w w')(ho:A8 (d7 w0) w' 220 u.v r):ST w0 w' rb gb ui uw vt us (ins.set i r) waits todo T:=by
 have hu:∀b,A3 u.v b→K6 ui us b:=fun b hb=>.inr ⟨u,ex5 hi,hb⟩;exact⟨s.rows.write hi hm ho,s.wts.mod hm fun b hb hb2=>(s.d1 b (hu b hb2)).2.1 hb,s.q.mod hm fun b hb hb2=>(s.d1 b (hu b hb2)).1 hb,(hm.block gb s.lg fun h=>(s.d1 gb (hu gb h)).2.2.1 rfl).trans s.cg,(hm.block rb s.lr fun h=>(s.d1 rb (hu rb h)).2.2.2 rfl).trans s.cr,s.d1,s.d2,s.d3,s.d4,o9.ext_of s.ext hm fun b hb=>s.ge (s.rows.free (hu b hb)),s.fg,s.frb⟩
theorem ST.put{P:Program}{t:TypeId}(s:ST w0 w rb gb ui uw vt us ins waits todo T){w1:World}(hx:o6 w w1){i:Nat}{u:Z0}(hi:us[i]?=some u){u':Value}{r:List W}(ho:A8 (d7 w0) w1 220 u' r)(hf:∀b,A3 u' b→w.heap.size≤b){inf:TypeInfo}(hinf:P.info? t=some inf)(hs:inf.size=1):
  ∃w2,(Instr.storeAt t (.pointer (some (H5 ui i))) u').run P w1 = .ok () w2∧ST w0 w2 rb gb ui uw vt (us.set i ⟨u'⟩) (ins.set i r) waits todo T:=by
 obtain⟨w2,s1,s2,s3,s4⟩:=s.rows.put (P:=P) (t:=t) hi (hx.weaken fun _ _ h=>h.elim) ho (fun b hb=>.inr (hf b hb)) hinf hs;have hv:∀b,A3 ui b→K6 ui us b:=fun b hb=>.inl hb;have s':=s.more hx;refine⟨w2,s1,s2,s'.wts.mod s3 fun b hb hb2=>(s.d1 b (hv b hb2)).2.1 hb,s'.q.mod s3 fun b hb hb2=>(s.d1 b (hv b hb2)).1 hb,(s3.block gb s'.lg fun h=>(s.d1 gb (hv gb h)).2.2.1 rfl).trans s'.cg,(s3.block rb s'.lr fun h=>(s.d1 rb (hv rb h)).2.2.2 rfl).trans s'.cr,fun b hb=>?_,s.d2,s.d3,s.d4,o9.ext_of s'.ext s3 fun b hb=>s.ge (s.rows.free (hv b hb)),s.fg,s.frb⟩;rcases hb with hb|⟨x,hx',hb⟩
 ·exact s.d1 b (.inl hb)
 ·rcases eD5 hx' with h|h
  ·exact s.d1 b (.inr ⟨x,h,hb⟩)
  ·subst h;have h9:=hf b hb;exact⟨fun hh=>by have:=s.q.lt hh;omega,fun hh=>by have:=s.wts.lt hh;omega,by have:=s.lg;omega,by have:=s.lr;omega⟩
theorem ST.qset{P:Program}{t:TypeId}(s:ST w0 w rb gb ui uw vt us ins waits todo T){k:Nat}(hk:k<todo.length)(y:Int){inf:TypeInfo}(hinf:P.info? t=some inf)(hs:inf.size=1):
  ∃w',(Instr.storeAt t (.pointer (some (H5 vt k))) (.int .i64 y)).run P w = .ok () w'∧ST w0 w' rb gb ui uw vt us ins waits (todo.set k y) T:=by
 obtain⟨w',h1,h3,h4⟩:=s.q.set (P:=P) (t:=t) hk y hinf hs;exact⟨w',h1,s.rows.mod h4 fun b hb=>(s.d1 b hb).1,s.wts.mod h4 fun b hb hb2=>(s.d2 b hb2).1 hb,h3,(h4.block gb s.lg fun h=>(s.d2 gb h).2.1 rfl).trans s.cg,(h4.block rb s.lr fun h=>(s.d2 rb h).2.2 rfl).trans s.cr,s.d1,s.d2,s.d3,s.d4,o9.ext_of s.ext h4 fun b hb=>s.ge (s.q.free hb),s.fg,s.frb⟩
end
theorem ei4:ag2 prog 241=true:=by kernel_rfl
theorem ei5:ag2 prog 242=true:=by kernel_rfl
theorem ei6:ag2 prog 243=true:=by kernel_rfl
theorem ei7:ag2 prog 244=true:=by kernel_rfl
theorem br0(w:World):(Instr.alloc 189 true (.tuple #[])).run prog w = .ok (.pointer (some ⟨w.heap.size,0,none⟩)) (w.alloc (.cells #[.slice none 0 0,.int .i64 0] 189)):=
 (aU2 (P:=prog) (T:=189) aW2 (by rw[aa5];rfl) (cs:=#[.slice none 0 0,.int .i64 0]) (by rw[aa5];rfl) (by simp[Value.oneCell'])).1
def goW(g r k:List W)(i:Nat):W:=g.getD i 0#64 ||| (r.getD i 0#64 &&& ~~~(k.getD i 0#64))
def X9(g r k:List W)(m i:Nat):List W:=(List.range m).map fun j=>if j<i then goW g r k j else 0#64
theorem bH9(g r k:List W)(m:Nat):X9 g r k m 0=List.replicate m 0#64:=by
 unfold X9;apply eC9 (by simp);intro i h1 h2;simp
theorem an1(g r k:List W)(m i:Nat):(X9 g r k m i).length=m:=by simp[X9]
theorem bh1(g r k:List W)(m i j:Nat):(X9 g r k m i)[j]?=if j<m then some (if j<i then goW g r k j else 0#64)else none:=by
 unfold X9;rw[ez2];by_cases hj:j<m
 ·rw[eE4 hj,if_pos hj];rfl
 ·rw[eD2 (by simp;omega),if_neg hj];rfl
theorem bH8(g r k:List W){m i:Nat}(hi:i<m):(X9 g r k m i).set i (goW g r k i)=X9 g r k m (i+1):=by
 apply eI3;intro j;rw[List.getElem?_set,bh1,bh1,an1];by_cases e:i=j
 ·subst e;rw[if_pos rfl,if_pos hi,if_pos hi,if_pos (by omega)]
 ·rw[if_neg e];by_cases h3:j<i
  ·rw[if_pos h3,if_pos (show j<i+1 by omega)]
  ·rw[if_neg h3,if_neg (show ¬j<i+1 by omega)]
theorem bS2(g r k:List W){m:Nat}(hg:g.length=m)(hr:r.length=m)(hk:k.length=m)(f:Nat):O2 (X9 g r k m m) f=(O2 g f||(O2 r f && !O2 k f)):=by
 unfold O2;by_cases hi:f / 64<m
 ·have h1:(X9 g r k m m).getD (f / 64) 0#64=goW g r k (f / 64):=by
   unfold X9;simp only[List.getD,ez2,eE4 hi,eC0,eA9];rw[if_pos hi]
  rw[h1];unfold goW;rw[BitVec.getLsbD_or,BitVec.getLsbD_and,BitVec.getLsbD_not];have:f % 64<64:=Nat.mod_lt _ (by decide);simp[this]
 ·have h0:∀l:List W,l.length=m→l.getD (f / 64) 0#64=0#64:=fun l hl=>by
   simp only[List.getD];rw[eD2 (by omega)];rfl
  rw[h0 _ (an1 g r k m m),h0 g hg,h0 r hr];simp
theorem ST.ge'{w0 w:World}{rb gb:Nat}{ui uw vt:Value}{us:List Z0}{ins:List (List W)}{waits:List Bool}{todo:List Int}{T:Int}(s:ST w0 w rb gb ui uw vt us ins waits todo T){w1:World}{b:Nat}(hb:d7 w1 b=none):w1.heap.size≤b:=
 eI8 fun hlt=>by simp[d7,hlt]at hb
theorem cn3(pg:Value)(nx pv:List (List Int))(vg vk:Value)(gs ks:List (List W))(gl kl:List (List Int))(most:Nat)(w:World)
  (hgr:GR (d7 w) pg nx pv) (hgg:aA1 nx.length (nx,pv)) (hvg:R (d7 w) vg gs) (hvk:R (d7 w) vk ks) (hsg:cp4 most gl gs) (hsk:cp4 most kl ks) (hgn:gl.length=nx.length) (hkn:kl.length=nx.length) (hfg:aN8 gl most) (hn5:nx.length≤5000) (hm5:most≤5000) :
  Calls prog 198 #[pg,vg,vk,.int .i64 most] w fun e w'=>∃u,e = .returned u∧((∃vi sol T,u = .agg #[vi,.int .i64 (T:Nat)]∧R (B4 w' (fun b=>b<w.heap.size)) vi sol∧sol.length=nx.length∧(∀b,H4 nx.length b=true→∃f:Nat→Bool,C2 sol b=((List.range most).filter f).map (fun(i:Nat)=>(i:Int))∧∀i,f i=true↔ar7 nx gl kl b i)∧nx.length≤T∧T≤nx.length+nx.length*most)∧o6 w w'):=by
 refine d9 (args:=[pg,vg,vk,.int .i64 most]) hm func198 rfl (by kernel_rfl) (by show 4≤_;decide +kernel) ?_;have hal:=br0;simp only[I0,zVB,simprocAttr,hal];have c1:(w.alloc (.cells #[.slice none 0 0,.int .i64 0] 189)).heap[w.heap.size]?=some (.cells #[.slice none 0 0,.int .i64 0] 189 (0,0)):=ez9 w _;have x1:=o6.alloc w (.cells #[.slice none 0 0,.int .i64 0] 189);have sz1:(w.alloc (.cells #[.slice none 0 0,.int .i64 0] 189)).heap.size=w.heap.size+1:=by simp
 generalize w.alloc (.cells #[.slice none 0 0,.int .i64 0] 189)=w1 at *;have c2:(w1.alloc (.cells #[.slice none 0 0,.int .i64 0] 189)).heap[w1.heap.size]?=some (.cells #[.slice none 0 0,.int .i64 0] 189 (0,0)):=ez9 w1 _;have x2:=o6.alloc w1 (.cells #[.slice none 0 0,.int .i64 0] 189);have sz2:(w1.alloc (.cells #[.slice none 0 0,.int .i64 0] 189)).heap.size=w1.heap.size+1:=by simp
 generalize w1.alloc (.cells #[.slice none 0 0,.int .i64 0] 189)=w2 at *;have x02:=x1.trans x2;have hgr2:=hgr.mono (b7 x02);refine y5 ei4 (cK2 pg nx pv w2 hgr2) ?_;rintro u w2' ⟨hu,hw2⟩;subst hw2;subst hu;have hz:z7.enc (d7 w) (Value.slice none 0 0).cells.toList E1:=⟨rfl,rfl⟩;obtain⟨ui,w3,m1,o1,x3,f1,s1⟩:=mk (P:=prog) (w:=w2') (h:=d7 w) cZ3 aW3 (α:=Z0) (y:=E1) hz (n:=nx.length) (by omega) (by omega) (b7 x02);obtain⟨ut,w4,m2,o2,x4,f2,s2⟩:=mk (P:=prog) (w:=w3) (h:=d7 w) ad9 ay1 (α:=Int) (y:=0) rfl (n:=nx.length) (by omega) (by omega) (b7 (x02.trans x3));obtain⟨uw,w5,m3,o3,x5,f3,s3⟩:=mk (P:=prog) (w:=w4) (h:=d7 w) bq4 U0 (α:=Bool) (y:=false) rfl (n:=nx.length) (by omega) (by omega) (b7 ((x02.trans x3).trans x4));have x35:=(x3.trans x4).trans x5;have l1:w.heap.size<w2'.heap.size:=by omega
 have l2:w1.heap.size<w2'.heap.size:=by omega
 have hcr:w5.heap[w.heap.size]?=some (.cells #[.slice none 0 0,.int .i64 0] 189 (0,0)):=(x35.block _ l1 id).trans ((x2.block _ (by omega) id).trans c1);have hcg:w5.heap[w1.heap.size]?=some (.cells #[.slice none 0 0,.int .i64 0] 189 (0,0)):=(x35.block _ l2 id).trans c2;have st0:ST w w5 w.heap.size w1.heap.size ui uw ut (List.replicate nx.length E1) (List.replicate nx.length []) (List.replicate nx.length false) (List.replicate nx.length 0) 0:=by
  refine⟨al5 ((o1.ext x4).ext x5),o3,(o2.ext x5).toQ,hcg,hcr,fun b hb=>?_,fun b hb=>⟨fun h=>?_,?_,?_⟩,fun b hb=>⟨?_,?_⟩,by omega,((x02.trans x3).trans x4).trans x5,by omega,ex0 _⟩
  ·have hb':=aD8 hb;have k1:=f1 b hb';have k2:=o1.lt hb';exact⟨fun h=>by have:=f2 b h;omega,fun h=>by have:=f3 b h;omega,by omega,by omega⟩
  ·have:=o2.lt hb;have:=f3 b h;omega
  ·have:=f2 b hb;omega
  ·have:=f2 b hb;omega
  ·have:=f3 b hb;omega
  ·have:=f3 b hb;omega
 have Si:=o1.isS;have ni:=o1.vlen;rw[eA5]at ni;have hgood:=hgg.nx;generalize hrb:w.heap.size=rb at *;generalize hgb:w1.heap.size=gb at *;have q1:=by8 (P:=prog) (t:=3) most (by omega);have q2:B6 prog .add 3 (.int .i64 ((most / 64:Nat):Int)) (.int .i64 1)=some (.int .i64 ((most / 64+1:Nat):Int)):=by
  simp only[B6,E6,eB5];rw[B1 _ (by omega)]
 have hm64:most / 64+1≤100:=by omega
 obtain⟨hsg1,hsg2⟩:=hsg;obtain⟨hsk1,hsk2⟩:=hsk;generalize hmm:most / 64+1=m at *;generalize hm6:most / 64=m6 at *;simp only[I0,O1,Q4,simprocAttr,m1,m2,m3,Si,ni];refine n7 [0,1,2,3,8,9,10,11,12,13,29,30] (σ:=Nat) (fun k f w'=>f 31 = .int .i64 k∧k≤nx.length∧∃us ins waits todo,ST w w' rb gb ui uw ut us ins waits todo 0∧ins.length=nx.length∧waits.length=nx.length∧todo.length=nx.length∧∀j:Nat,j<k→ins[j]?=some (List.replicate m 0#64)∧waits[j]?=some true∧todo[j]?=some (j:Int)) (fun k=>nx.length-k) 0 (by decide +kernel) ?_ ?_
 ·simp only[p7,simprocAttr];exact⟨by first|rfl|trivial,ew6 _,_,_,_,_,st0,by simp,by simp,by simp,fun j hj=>by omega⟩
 ·rintro k f w6 hk ⟨h31,hkl,us,ins,waits,todo,st,li,lw,lt,hdone⟩;simp only[ev6,p7,simprocAttr]at hk;obtain⟨e0,e1,e2,e3,e8,e9,e10,e11,e12,e13,e29,e30,_⟩:=hk;simp only[I0,B6,E6,simprocAttr,h31,e30];refine i5 (fun hc=>?_) (fun hc=>?_)
  ·have hlt:k<nx.length:=by simpa using hc
   have q6:B6 prog .add 3 (.int .i64 k) (.int .i64 1)=some (.int .i64 ((k+1:Nat):Int)):=by
    simp only[B6,E6,eB5];rw[B1 k (by omega)]
   obtain⟨ur,w7,m4,o4,x7,f4,s4⟩:=mk (P:=prog) (w:=w6) (h:=d7 w) df7 ay0 (α:=W) (y:=0#64) rfl (n:=m) (by omega) (by omega) (b7 st.ext);have lus:us.length=nx.length:=by rw[st.rows.len,li]
   have hui:us[k]?=some (us[k]'(by omega)):=ev4 _;generalize us[k]'(by omega)=u at hui;obtain⟨w8,t1,st1⟩:=st.put (P:=prog) (t:=275) x7 hui o4 f4 (t8 aW3).choose_spec.1 (by rw[←C8 (t8 aW3).choose_spec.1];exact bX4);obtain⟨w9,t2,st2⟩:=st1.qset (P:=prog) (t:=3) (k:=k) (by omega) (k:Int) (t8 ay1).choose_spec.1 (by rw[←C8 (t8 ay1).choose_spec.1];exact aR8);obtain⟨w10,t3,st3⟩:=st2.wait (P:=prog) (t:=4) (k:=k) (by omega) true (t8 U0).choose_spec.1 (by rw[←C8 (t8 U0).choose_spec.1];exact aE3);have in1:=st.rows.outer.inS (k:=k) (by omega);have in2:=st.q.inS (k:=k) (by omega);have in3:=st.wts.inS (k:=k) (by omega);simp only[I0,zVB,y0,simprocAttr,h31,e11,e12,e13,e3,q1,q2,m4,in1,in2,in3,t1,t2,t3,q6];refine⟨k+1,by omega,by trivial,by omega,_,_,_,_,st3,by simp[li],by simp[lw],by simp[lt],fun j hj=>?_⟩;by_cases hjk:j=k
   ·subst hjk;exact⟨eB7 (by omega),eB7 (by omega),eB7 (by omega)⟩
   ·rw[eD6 (fun e=>hjk e.symm),eD6 (fun e=>hjk e.symm),eD6 (fun e=>hjk e.symm)];exact hdone j (by omega)
  ·have hge:k=nx.length:=by simp at hc;omega
   subst hge;have hins:ins=List.replicate nx.length (List.replicate m 0#64):=by
    apply eC9 (by simp[li]);intro j h1 h2;have:=(hdone j (by omega)).1;rw[ev4 h1]at this;simpa using this
   have hwts:waits=List.replicate nx.length true:=by
    apply eC9 (by simp[lw]);intro j h1 h2;have:=(hdone j (by omega)).2.1;rw[ev4 h1]at this;simpa using this
   have htd:todo=(List.range nx.length).map fun(i:Nat)=>(i:Int):=by
    apply eC9 (by simp[lt]);intro j h1 h2;have:=(hdone j (by omega)).2.2;rw[ev4 h1]at this;simpa using this
   have si0:SI nx gl kl most ins todo waits 0:=by
    refine SI.start (by rw[hins,←hmm,←hm6]) (fun a=>?_) ?_ lt hwts
    ·rw[htd,ey1,C4];constructor
     ·rintro⟨i,hi,rfl⟩;have:=ez3.1 hi;omega
     ·rintro⟨h1,h2⟩;exact⟨a.toNat,ez3.2 (by omega),by omega⟩
    ·rw[htd];refine List.Pairwise.map _ (fun a b h=>?_) (List.nodup_range (n:=nx.length));omega
   simp only[I0,simprocAttr];clear hdone hins hwts htd li lw lt st0;have q3:∀T:Nat,T≤100000000→B6 prog .add 3 (.int .i64 (T:Int)) (.int .i64 1)=some (.int .i64 ((T+1:Nat):Int)):=fun T hT=>by
    simp only[B6,E6,eB5];rw[B1 T (by omega)]
   refine n7 [0,1,2,3,8,9,10,11,13] (σ:=List (List W)×List Int) (fun s f w'=>∃waits T,ST w w' rb gb ui uw (f 12) us s.1 waits s.2 (T:Nat)∧SI nx gl kl most s.1 s.2 waits T) (fun s=>cX9 nx.length most s.1 s.2) (ins,todo) (by decide +kernel) ?_ ?_
   ·simp only[p7,simprocAttr];simp only[e12];exact⟨waits,0,st,si0⟩
   ·clear st si0 ins waits todo;rintro⟨ins,todo⟩ f w7 hk ⟨waits,T,st,si⟩;simp only[ev6,p7,simprocAttr]at hk;simp only[e0,e1,e2,e3,e8,e9,e10,e11,e13]at hk;obtain⟨i0,i1,i2,i3,i8,i9,i10,i11,i13,_⟩:=hk;simp only at st si;generalize hvt:f 12=vt at *;have Sq:=st.q.isS;have nq:=st.q.vlen;have hpl:=aQ0 most ins;rw[si.ilen]at hpl;have hnm:nx.length*most≤25000000:=ew2 (Nat.mul_le_mul hn5 hm5) (by decide);have hfew:=si.few;simp only[I0,O1,B6,E6,Q4,simprocAttr,hvt,Sq,nq];refine i5 (fun hc=>?_) (fun hc=>?_)
    ·have hpos:0<todo.length:=by simpa using hc
     obtain⟨a,rest,rfl⟩:∃a rest,todo=a::rest:=by
      cases todo with
      | nil=>simp at hpos
      | cons a rest=>exact⟨a,rest,rfl⟩
     have hka:H4 nx.length a=true:=si.ok a (by simp);have hka':=C4.1 hka;have d0:decide (0≤a)=true:=by simpa using hka'.1
     have inq:=st.q.inS (k:=0) (by simp);have ldq:=st.q.head (P:=prog) (t:=3) F8;have hvc:=st.q.vcap;have d1:decide ((1:Int)≤(((a::rest).length:Nat):Int))=true:=by simp;omega
     have d2:decide ((((a::rest).length:Nat):Int)≤(vcap vt:Int))=true:=by
      have h9:=hvc;simp only[ey0]at h9 ⊢;simp;omega
     have st1:=st.tail;have hlr:(a::rest).length=rest.length+1:=rfl;rw[hlr]at nq d1 d2;obtain⟨w8,t2,st2⟩:=st1.wait (P:=prog) (t:=4) (k:=a.toNat) (by rw[si.wlen];omega) false (t8 U0).choose_spec.1 (by rw[←C8 (t8 U0).choose_spec.1];exact aE3);have inw:=st.wts.inS (k:=a.toNat) (by rw[si.wlen];omega);have ldT:=F0 (P:=prog) (t:=3) (i:=1) (u:=.int .i64 (T:Int)) st2.cg rfl F8;have hTle:T≤100000000:=by simp only[ey0]at hfew;omega
     have qT:=q3 T hTle;obtain⟨w9,t3,st3⟩:=st2.times (P:=prog) (t:=3) ((T+1:Nat):Int) (t8 ay1).choose_spec.1 (by rw[←C8 (t8 ay1).choose_spec.1];exact aR8);obtain⟨ug,w10,m4,o4,x10,f4,s4⟩:=mk (P:=prog) (w:=w9) (h:=d7 w9) df7 ay0 (α:=W) (y:=0#64) rfl (n:=m) (by omega) (by omega) (i4 _);have st4:=st3.more x10;have Sg:=o4.isS;have ng:=o4.vlen;rw[eA5]at ng;generalize hrl:rest.length+1=rl at *;generalize hvt2:reS vt 1 rl 1=vt2 at *;generalize hT1:((T+1:Nat):Int)=T1 at *;simp only[I0,zVB,y0,I3,Q4,simprocAttr,hvt,Sq,nq,inq,ldq,d1,d2,hvt2,i13,inw,d0,t2,i9,ldT,qT,t3,i3,q1,q2,m4,Sg,ng];have hal:a.toNat<nx.length:=by omega
     have hgla:gl[a.toNat]?=some (C2 gl a):=(aj9 (nx:=gl) (by rw[hgn];exact hka)).1;have hkla:kl[a.toNat]?=some (C2 kl a):=(aj9 (nx:=kl) (by rw[hkn];exact hka)).1;obtain⟨g,hg1,hg2,hg3⟩:=hsg2 _ _ hgla;obtain⟨kk,hk1,hk2,hk3⟩:=hsk2 _ _ hkla;rw[hm6,hmm]at hg2 hk2;obtain⟨xg,hxg,hcg'⟩:=hvg.row hg1;obtain⟨xk,hxk,hck'⟩:=hvk.row hk1;have hra:=ag5 si.ilen hka;have hrl2:(wAt ins a).length=m:=by rw[←hmm,←hm6];exact si.rlen _ (ex5 hra)
     have lus:us.length=nx.length:=by rw[st.rows.len,si.ilen]
     have hua:us[a.toNat]?=some (us[a.toNat]'(by omega)):=ev4 _;generalize us[a.toNat]'(by omega)=ua at hua;have ing:=hvg.inS (k:=a.toNat) (by rw[hsg1,hgn];exact hal);have ink:=hvk.inS (k:=a.toNat) (by rw[hsk1,hkn];exact hal);have inr:=st.rows.outer.inS (k:=a.toNat) (by omega);have hgoes:=bS2 g (wAt ins a) kk hg2 hrl2 hk2;refine n7 [0,1,2,3,8,9,10,11,12,13,15,16,68,69] (σ:=Nat) (fun i f w'=>f 70 = .int .i64 i∧i≤m∧A8 (d7 w9) w' 220 ug (X9 g (wAt ins a) kk m i)∧o6 w9 w') (fun i=>m-i) 0 (by decide +kernel) ?_ ?_
     ·simp only[p7,simprocAttr];exact⟨by first|rfl|trivial,ew6 _,by rw[bH9];exact o4,x10⟩
     ·rintro i f w11 hk ⟨h70,him,hog,hx11⟩;simp only[ev6,p7,simprocAttr]at hk;simp only[i0,i1,i2,i3,i8,i9,i10,i11,i13]at hk;obtain⟨j0,j1,j2,j3,j8,j9,j10,j11,j12,j13,j15,j16,j68,j69,_⟩:=hk;simp only[I0,B6,E6,simprocAttr,h70,j69];refine i5 (fun hc=>?_) (fun hc=>?_)
      ·have hit:i<m:=by simpa using hc
       have q6:B6 prog .add 3 (.int .i64 i) (.int .i64 1)=some (.int .i64 ((i+1:Nat):Int)):=by
        simp only[B6,E6,eB5];rw[B1 i (by omega)]
       have hd:=o6.drew w11;have st11:=(st3.more hx11).more hd;have hld1:=G5 (P:=prog) (t:=275) hcg' (b7 st11.ext) aM5;have hld2:=G5 (P:=prog) (t:=275) hck' (b7 st11.ext) aM5;have hld3:=aH3 (P:=prog) (t:=275) st11.rows hua aM5;have hrow:=st11.rows.row _ _ _ hua hra;have v1:=N0 (P:=prog) (t:=220) hxg (b7 st11.ext) (aW6 (show i<g.length by omega)) af7;have v2:=N0 (P:=prog) (t:=220) hxk (b7 st11.ext) (aW6 (show i<kk.length by omega)) af7;have v3:=D4 (P:=prog) (t:=220) hrow (aW6 (show i<(wAt ins a).length by omega)) af7;have y1:=hxg.inS (k:=i) (by omega);have y2:=hxk.inS (k:=i) (by omega);have y3:=hrow.inS (k:=i) (by omega);have hgw:goW g (wAt ins a) kk i=g.getD i 0#64 ||| ((wAt ins a).getD i 0#64 &&& ~~~(kk.getD i 0#64)):=rfl;have hsu:=bH8 g (wAt ins a) kk hit;rw[hgw]at hsu;simp only[J0.val]at v1 v2 v3;generalize g.getD i 0#64=gi at *;generalize(wAt ins a).getD i 0#64=ri at *;generalize kk.getD i 0#64=ki at *;have b1:=br4 (P:=prog) (t:=220) ri ki;have b2:=cr4 (P:=prog) (t:=220) gi (ri &&& ~~~ki);have ingi:=hog.inS (k:=i) (by rw[an1];exact hit);obtain⟨w12,t4,o5,m5,_⟩:=E0 (P:=prog) (t:=220) (hog.ext hd) rfl (k:=i) (by rw[an1];exact hit) (x:=.int .u64 (((gi ||| (ri &&& ~~~ki)).toNat:Nat):Int)) (y:=(gi ||| (ri &&& ~~~ki))) rfl rfl (t8 ay0).choose_spec.1 (by rw[←C8 (t8 ay0).choose_spec.1];exact bD7);rw[hsu]at o5;simp only[I0,simprocAttr,h70];refine C5 (fun w3=>w3=w11.drew) 25 (B0 [0,1,2,3,4,5,6,7,8,9,10,11,12,13,14,15,16,17,18,19,20,21,22,23,24]) (by decide +kernel) rfl ?_;simp only[D6,B0,I0,zVB,y0,simprocAttr,j16,j1,j15,d0,ing];refine⟨xg,fun w3 e=>by subst e;exact hld1,?_⟩;simp only[D6,I0,zVB,y0,simprocAttr,y1];refine⟨.int .u64 (gi.toNat:Nat),fun w3 e=>by subst e;exact v1,?_⟩;simp only[D6,I0,zVB,y0,simprocAttr,j11,j15,d0,inr];refine⟨ua.v,fun w3 e=>by subst e;exact hld3,?_⟩;simp only[D6,I0,zVB,y0,simprocAttr,y3];refine⟨.int .u64 (ri.toNat:Nat),fun w3 e=>by subst e;exact v3,?_⟩;simp only[D6,I0,zVB,y0,simprocAttr,j2,j15,d0,ink];refine⟨xk,fun w3 e=>by subst e;exact hld2,?_⟩;simp only[D6,I0,zVB,y0,simprocAttr,y2];refine⟨.int .u64 (ki.toNat:Nat),fun w3 e=>by subst e;exact v2,?_⟩;simp only[D6,I0,zVB,y0,simprocAttr,b1,b2,ingi,t4,h70,q6];exact⟨i+1,by omega,by trivial,by omega,o5,(hog.ext hd).ext2 (hx11.trans hd) m5⟩
      ·have hge2:i=m:=by simp at hc;omega
       subst hge2;clear hua ing ink inr hxg hxk hcg' hck';have hgB:∀f,O2 (X9 g (wAt ins a) kk i i) f=true↔bE7 gl kl ins a f:=by
        intro f;rw[hgoes f,eH5,ex4,Bool.not_eq_true',hg3 f];have h8:=hk3 f;unfold bE7 ah1;constructor
        ·rintro(h|⟨h9,h10⟩)
         ·exact .inl h
         ·exact .inr ⟨h9,fun h11=>by rw[h8.2 h11]at h10;cases h10⟩
        ·rintro(h|⟨h9,h10⟩)
         ·exact .inl h
         ·refine .inr ⟨h9,?_⟩;cases e:O2 kk f
          ·rfl
          ·exact absurd (h8.1 e) h10
       have hgs':∀f,O2 (X9 g (wAt ins a) kk i i) f=true→f<most∧∀b∈C2 nx a,ar7 nx gl kl b f:=by
        intro f hf;rcases(hgB f).1 hf with h|⟨h1,h2⟩
        ·refine⟨?_,fun b hb=>.gen hb h⟩;have:=hfg _ (ao1 (nx:=gl) (by rw[hgn];exact hka)) _ h;omega
        ·exact⟨si.low a f hka h1,fun b hb=>.step hb (si.sound a f hka h1) h2⟩
       have hglen:(X9 g (wAt ins a) kk i i).length=most / 64+1:=by rw[an1,hm6,hmm]
       have sj0:=si.pop hgB;have st11:=st3.more hx11;have hog0:=hog.down (b7 st3.ext);have hgr11:=hgr.mono (b7 st11.ext);have hfo:∀b,A3 ug b→w9.heap.size≤b:=fun b hb=>f4 b hb;generalize X9 g (wAt ins a) kk i i=gw at *;simp only[I0,simprocAttr,j0,j15];refine y5 ei5 (cp0 pg nx pv a w11 hgr11 (by rw[hgg.pv.len]) (fun x hx=>ew2 (hgood.row_len hx) (by omega))) ?_;rintro un w12 ⟨hon,hx12⟩;have Sn:=hon.isS;have nn:=hon.vlen;have st12:=st11.more hx12;have hog12:=hog0.ext hx12;have hon0:=hon.down (b7 st11.ext);have hfn:∀b,A3 un b→w11.heap.size≤b:=fun b hb=>st12.ge' (hon.free hb);have hrowlen:(C2 nx a).length≤nx.length:=hgood.rowlen a;simp only[I0,O1,Q4,simprocAttr,Sn,nn];refine n7 [0,1,2,3,8,9,10,11,13,15,16,102,103] (σ:=Nat) (fun k f w'=>f 104 = .int .i64 k∧k≤(C2 nx a).length∧∃ins' todo' waits',ST w w' rb gb ui uw (f 12) us ins' waits' todo' T1∧SJ nx gl kl most a gw k ins' todo' waits' (T+1)∧todo'.length+aD4 most ins≤rest.length+aD4 most ins'∧o9 (fun b=>K6 ui us b∨A3 uw b∨A3 vt2 b∨w12.heap.size≤b) w12 w'∧∀b,A3 (f 12) b→A3 vt2 b∨w12.heap.size≤b) (fun k=>(C2 nx a).length-k) 0 (by decide +kernel) ?_ ?_
       ·simp only[p7,simprocAttr];simp only[j12];exact⟨by trivial,ew6 _,ins,rest,_,st12,sj0,ex0 _,o9.refl _,fun b hb=>.inl hb⟩
       ·rintro k f w13 hk ⟨h104,hkl,ins',todo',waits',st',sj,hpot,hmod,hq12⟩;simp only[ev6,p7,simprocAttr]at hk;simp only[j0,j1,j2,j3,j8,j9,j10,j11,j13,j15,j16]at hk;obtain⟨k0,k1,k2,k3,k8,k9,k10,k11,k13,k15,k16,k102,k103,_⟩:=hk;generalize hvk12:f 12=vk12 at *;simp only[I0,B6,E6,simprocAttr,h104,k103];refine i5 (fun hc=>?_) (fun hc=>?_)
        ·have hkt:k<(C2 nx a).length:=by simpa using hc
         have hNg:∀b,A3 ug b→¬(K6 ui us b∨A3 uw b∨A3 vt2 b∨w12.heap.size≤b):=fun b hb hh=>by
          have h1:=hfo b hb;rcases hh with hh|hh|hh|hh
          ·have:=st3.rows.lt hh;omega
          ·have:=st3.wts.lt hh;omega
          ·have:=st3.q.lt hh;omega
          ·have:=hog12.lt hb;omega
         have hNn:∀b,A3 un b→¬(K6 ui us b∨A3 uw b∨A3 vt2 b∨w12.heap.size≤b):=fun b hb hh=>by
          have h1:=hfn b hb;have h2:=hx11.size;rcases hh with hh|hh|hh|hh
          ·have:=st3.rows.lt hh;omega
          ·have:=st3.wts.lt hh;omega
          ·have:=st3.q.lt hh;omega
          ·have:=hon0.lt hb;omega
         have hog13:=hog12.mod hmod hNg;have hon13:=hon0.mod hmod hNn;have hrn:=hon13.rw_ (b7 st'.ext);have ik:=hrn.inS hkt;have ldk:=N0 (P:=prog) (t:=3) hrn (i4 _) (ev4 hkt) F8;simp only[J0.val]at ldk;have hbat:(C2 nx a)[k]?=some (C2 nx a)[k]:=ev4 hkt;have hbok:=(hgood.row a).2 _ (ew4 hkt);generalize(C2 nx a)[k]=b at ldk hbat hbok;have hbok':=C4.1 hbok;have db:decide (0≤b)=true:=by simpa using hbok'.1
         have hbl:b.toNat<nx.length:=by omega
         have hub:us[b.toNat]?=some (us[b.toNat]'(by omega)):=ev4 _;generalize us[b.toNat]'(by omega)=ub at hub;have inb:=st'.rows.outer.inS (k:=b.toNat) (by omega);have ldb:=aH3 (P:=prog) (t:=275) st'.rows hub aM5;have hrb':=ag5 sj.ilen hbok;have hrow:=st'.rows.row _ _ _ hub hrb';have hrlen:(wAt ins' b).length=gw.length:=by rw[hglen];exact sj.rlen _ (ex5 hrb')
         have hle0:B3 (d7 w) (aI9 w13 ub.v):=fun x o e=>by
          have hn:¬A3 ub.v x:=fun hb2=>by rw[hrow.free hb2]at e;cases e
          rw[aG1 hn];exact b7 st'.ext x o e
         have hrowB:=hrow.rebase (b7 st'.ext);have hdj:∀x,A3 ug x→¬A3 ub.v x:=fun x hx hx2=>hNg x hx (.inl (.inr ⟨ub,ex5 hub,hx2⟩));have hRg:=hog13.beside (v:=ub.v) hle0 hdj;have q6:B6 prog .add 3 (.int .i64 k) (.int .i64 1)=some (.int .i64 ((k+1:Nat):Int)):=by
          simp only[B6,E6,eB5];rw[B1 k (by omega)]
         simp only[I0,O1,y0,simprocAttr,h104,k102,k11,k16,ik,ldk,db,inb,ldb];refine y5 ei6 (cx8 (aI9 w13 ub.v) ub.v ug (wAt ins' b) gw w13 hrowB (cv4 w13 ub.v) hRg hrlen (by rw[hrlen,hglen];omega)) ?_;rintro rj w14 ⟨hrj,ho14,hm14⟩;have ho14':=ho14.down hle0;have st14:=st'.row hub hm14 ho14';have hN14:o9 (fun b=>K6 ui us b∨A3 uw b∨A3 vt2 b∨w12.heap.size≤b) w12 w14:=hmod.trans (hm14.weaken fun x _ hx=>.inl (.inr ⟨ub,ex5 hub,hx⟩));obtain⟨hp1,hp2⟩:=sj.pot hglen hgs' hbok;have inwb:=st14.wts.inS (k:=b.toNat) (by rw[sj.wlen];exact hbl);have hwb:=M1 (l:=waits') (b:=b) (by rw[sj.wlen];exact hbok);have hwat:waits'[b.toNat]?=some (B2 waits' b):=by
          rw[hwb.2];simp[List.getD,hwb.1]
         have ldw:=D4 (P:=prog) (t:=4) st14.wts hwat ap7;simp only[J0.val]at ldw;generalize hmo:ae4 (wAt ins' b) gw=mo at *;generalize hwbb:B2 waits' b=wb at *;subst hrj;cases mo
         ·have sj':=sj.old hgood hglen hgs' hbat hbok (.inl hmo);simp only[I0,simprocAttr,h104,q6];exact⟨k+1,by omega,by trivial,by omega,_,_,_,by simpa only[hvk12]using st14,sj',by omega,hN14,by simpa only[hvk12]using hq12⟩
         ·cases wb
          ·have sj':=sj.new hgood hglen hgs' hbat hbok hmo hwbb;obtain⟨w15,t5,st15,m15⟩:=st14.wait2 (P:=prog) (t:=4) (k:=b.toNat) (by rw[sj.wlen];exact hbl) true (t8 U0).choose_spec.1 (by rw[←C8 (t8 U0).choose_spec.1];exact aE3);have htl:todo'.length+1≤100000000:=by
            have:=sj.few;have h8:=aQ0 most ins';rw[sj.ilen]at h8;omega
           obtain⟨p1,v',w16,p2,st16,m16,mv16⟩:=st15.push2 (P:=prog) (t:=112) (e:=112) ad9 b (by omega) (by omega);have hN16:o9 (fun b=>K6 ui us b∨A3 uw b∨A3 vt2 b∨w12.heap.size≤b) w12 w16:=(hN14.trans (m15.weaken fun x _ hx=>.inr (.inl hx))).trans (m16.weaken fun x _ hx=>by
            rcases hq12 x hx with h|h
            ·exact .inr (.inr (.inl h))
            ·exact .inr (.inr (.inr h)))
           have hsz15:=(hN14.trans (m15.weaken fun x _ hx=>.inr (.inl hx))).size;have hq16:∀x,A3 v' x→A3 vt2 x∨w12.heap.size≤x:=fun x hx=>by
            rcases mv16 x hx with h|h
            ·exact hq12 x h
            ·exact .inr (by omega)
           simp only[I0,zVB,unV,y0,simprocAttr,h104,k13,db,inwb,ldw,q6,t5,hvk12,p1,p2];exact⟨k+1,by omega,by trivial,by omega,_,_,_,st16,sj',by simp only[ev7,ey0,eC2];have:=hp2 rfl;omega,hN16,hq16⟩
          ·have sj':=sj.old hgood hglen hgs' hbat hbok (.inr hwbb);simp only[I0,zVB,unV,y0,simprocAttr,h104,k13,db,inwb,ldw,q6];exact⟨k+1,by omega,by trivial,by omega,_,_,_,by simpa only[hvk12]using st14,sj',by omega,hN14,by simpa only[hvk12]using hq12⟩
        ·have hge3:k=(C2 nx a).length:=by simp at hc;omega
         subst hge3;have si':=sj.fin rfl;simp only[I0,simprocAttr];have hpl':=aQ0 most ins';rw[si'.ilen]at hpl';exact⟨(ins',todo'),by simp only[cX9,ey0];omega,waits',T+1,by rw[hT1];simpa only[hvk12]using st',si'⟩
    ·have hnil:todo=[]:=by
      cases todo with
      | nil=>rfl
      | cons x rest=>simp at hc
     subst hnil;obtain⟨hfin,hT1,hT2⟩:=si.fin hgood;have Si:=st.rows.outer.isS;have lus:us.length=nx.length:=by rw[st.rows.len,si.ilen]
     have ni:vlen ui=nx.length:=by rw[st.rows.outer.vlen,lus]
     have hgb0:rb<w7.heap.size:=st.lr;have hgb1:gb<w7.heap.size:=st.lg;have hRl:∀b,K6 ui us b→b<w7.heap.size:=fun b hb=>st.rows.lt hb;have hrows7:=st.rows;have hd1:∀b,K6 ui us b→b≠gb∧b≠rb:=fun b hb=>(st.d1 b hb).2.2;have hd4:=st.d4;have hfg':=st.fg;have hfr':=st.frb;simp only[I0,O1,Q4,simprocAttr,i11,Si,ni];refine n7 [0,1,2,3,8,9,10,11,129,130] (σ:=Nat) (fun k f w'=>f 131 = .int .i64 k∧k≤nx.length∧(∃vin,w'.heap[gb]?=some (.cells #[vin,.int .i64 (T:Nat)] 189 (0,0))∧A8 (B4 w' (fun b=>A3 vin b∨b<w7.heap.size)) w' 112 vin ((ins.take k).map fun r=>Z1 r most)∧∀b,A3 vin b→w7.heap.size≤b) ∧
      w'.heap[rb]?=some (.cells #[.slice none 0 0,.int .i64 0] 189 (0,0))∧K1 (d7 w) w' 275 220 ui us ins∧o6 w w'∧w7.heap.size≤w'.heap.size) (fun k=>nx.length-k) 0 (by decide +kernel) ?_ ?_
     ·simp only[p7,simprocAttr];exact⟨by trivial,ew6 _,⟨_,st.cg,A8.nil _ _ _,fun b hb=>absurd hb D1⟩,st.cr,hrows7,st.ext,ex0 _⟩
     ·rintro k f w8 hk ⟨h131,hkl,⟨vin,cg,hov,hfv⟩,cr,hrows,hx,hsz⟩;simp only[ev6,p7,simprocAttr]at hk;simp only[i0,i1,i2,i3,i8,i9,i10,i11]at hk;obtain⟨j0,j1,j2,j3,j8,j9,j10,j11,j129,j130,_⟩:=hk;simp only[I0,B6,E6,simprocAttr,h131,j130];refine i5 (fun hc=>?_) (fun hc=>?_)
      ·have hkt:k<nx.length:=by simpa using hc
       have q6:B6 prog .add 3 (.int .i64 k) (.int .i64 1)=some (.int .i64 ((k+1:Nat):Int)):=by
        simp only[B6,E6,eB5];rw[B1 k (by omega)]
       have hua:us[k]?=some (us[k]'(by omega)):=ev4 _;generalize us[k]'(by omega)=ua at hua;have hra:ins[k]?=some (ins[k]'(by rw[si.ilen];exact hkt)):=ev4 _;have htk:(ins.take (k+1)).map (fun r=>Z1 r most)=(ins.take k).map (fun r=>Z1 r most)++[Z1 (ins[k]'(by rw[si.ilen];exact hkt)) most]:=by
        rw[ew3 (by rw[si.ilen];exact hkt),ey8];rfl
       have hrl:=si.rlen _ (ex5 hra);generalize ins[k]'(by rw[si.ilen];exact hkt)=r at hra htk hrl;have hd:=o6.drew w8;have cgd:=(hd.block gb (ew1.1 cg).1 id).trans cg;have crd:=(hd.block rb (ew1.1 cr).1 id).trans cr;have hrowsd:=hrows.ext hd;have hxd:=hx.trans hd;have ink:=hrows.outer.inS (k:=k) (by omega);have gbl:=(ew1.1 cgd).1;have rbl:=(ew1.1 crd).1;have hRrow:=(hrowsd.row _ _ _ hua hra).rw_ (b7 hxd);have hovd:=hov.noMod hd (fun b h=>h.elim) (fun b _ h=>h) (N':=fun b=>A3 vin b∨b<w7.heap.size) (fun b h=>.inl h) (fun b h=>.inl h);generalize hwd:w8.drew=wd at *;have hszd:w7.heap.size≤wd.heap.size:=ew2 hsz hd.size;simp only[I0,simprocAttr,h131];refine C5 (fun w2=>o6 wd w2) 9 (B0 [0,1,2,3,4,5,6,7,8]) (by decide +kernel) (by rw[hwd];exact o9.refl _) ?_;rw[hwd];simp only[D6,B0,I0,O1,simprocAttr,j9];refine⟨vin,fun w2 e=>F0 (i:=0) ((e.block gb gbl id).trans cgd) rfl S0,?_⟩;simp only[D6,I0,O1,y0,simprocAttr,j11,ink];refine⟨ua.v,fun w2 e=>aH3 (hrowsd.ext e) hua aM5,?_⟩;simp only[D6,I0,simprocAttr,j3];refine y5 ei7 (cy6 ua.v r most wd hRrow (by omega) (fun f hf=>by rw[hrl];have:=Nat.div_le_div_right (c:=64) (Nat.le_of_lt hf);omega)) ?_;rintro ul w9 ⟨hol,hx9⟩;have Sl:=hol.isS;have hNb:∀b,A3 ul b→¬(A3 vin b∨b<w7.heap.size):=fun b hb hh=>by
        have h1:wd.heap.size≤b:=by
         have:=hol.free hb;exact eI8 fun hlt=>by simp[d7,hlt]at this
        rcases hh with hh|hh
        ·have:=hovd.lt hh;omega
        ·omega
       have hov9:=hovd.noMod hx9 (fun b h=>h.elim) (fun b _ h=>h) (N':=fun b=>A3 vin b∨b<w7.heap.size) (fun b h=>.inl h) (fun b h=>.inl h);have hRl9:=(hol.down (h:=B4 wd (fun b=>A3 vin b∨b<w7.heap.size)) (B7 _ _)).roNo (H1 hx9 (fun b h=>h.elim) (N':=fun b=>A3 vin b∨b<w7.heap.size) fun b h=>.inl h) hNb;obtain⟨p1,v',w10,p2,p3,p4,p5⟩:=push (P:=prog) (t:=153) (e:=153) bV4 rfl hov9 (x:=ul) (y:=Z1 r most) (by rw[D9 Sl];exact hRl9) (by simp;omega) (by simp;omega) (B7 _ _);rw[D9 Sl]at p1 p2;have hgv:¬A3 vin gb:=fun h=>by have:=hfv gb h;omega
       have hrv:¬A3 vin rb:=fun h=>by have:=hfv rb h;omega
       have cg9:=(hx9.block gb gbl id).trans cgd;have cr9:=(hx9.block rb rbl id).trans crd;have cg10:=(p4.block gb (ew1.1 cg9).1 hgv).trans cg9;have cr10:=(p4.block rb (ew1.1 cr9).1 hrv).trans cr9;have Sv:=p3.isS;obtain⟨w11,t6,cg11,m11⟩:=ai0 (P:=prog) (t:=153) (i:=0) (x:=v') cg10 (by simp) (D9 Sv) (W2 Sv) (t8 cI0).choose_spec.1 (by rw[←C8 (t8 cI0).choose_spec.1];exact cH4);have cr11:=(m11.block rb (ew1.1 cr10).1 (fun h=>hd4 h.symm)).trans cr10;have hfv':∀b,A3 v' b→w7.heap.size≤b:=fun b hb=>by
        rcases p5 b hb with h|h
        ·exact hfv b h
        ·have:=hx9.size;omega
       have hov11:A8 (B4 w11 (fun b=>A3 v' b∨b<w7.heap.size)) w11 112 v' ((ins.take k).map (fun r=>Z1 r most)++[Z1 r most]):=by
        have h1:A8 (B4 w10 (fun b=>A3 v' b∨b<w7.heap.size)) w10 112 v' ((ins.take k).map (fun r=>Z1 r most)++[Z1 r most]):=
         p3.reNo (H1 p4 (fun b h=>.inl h) fun b h=>by
          rcases h with h|h
          ·rcases p5 b h with h|h
           ·exact .inl (.inl h)
           ·exact .inr h
          ·exact .inl (.inr h)) fun b h=>.inl h
        exact h1.noMod m11 (fun b h=>.inr (by subst h;exact hgb1)) (fun b hb h=>by subst h;have:=hfv' b hb;omega) (fun b h=>.inl h) (fun b h=>.inl h)
       have hrows11:=((hrowsd.ext hx9).mod p4 (fun b hb hb2=>by have:=hRl b hb;have:=hfv b hb2;omega)).mod m11 (fun b hb h=>(hd1 b hb).1 h);have hx11:o6 w w11:=o9.ext_of (o9.ext_of (hxd.trans hx9) p4 fun b hb=>by have:=hfv b hb;have:=st.ext.size;omega) m11 fun b hb=>by subst hb;exact hfg'
       have hsz11:w7.heap.size≤w11.heap.size:=ew2 hszd (ew2 hx9.size (ew2 p4.size m11.size));simp only[D6,I0,simprocAttr,G0,p1];refine⟨hx9,hx9.trans (o6.alloc w9 _),?_⟩;simp only[I0,zVB,simprocAttr,p2,j9,t6,h131,q6];refine⟨k+1,by omega,by trivial,by omega,⟨v',?_,?_,hfv'⟩,cr11,hrows11,hx11,hsz11⟩
       ·simpa using cg11
       ·rw[htk];exact hov11
      ·have hge4:k=nx.length:=by simp at hc;omega
       subst hge4;rw[eA1 (by rw[si.ilen];exact ex0 _)]at hov;have hlda:=ac4 (P:=prog) cg bm7 bn5 bn0 (by rw[aa5];rfl);have Sv:=hov.isS;have hone:∀u∈(#[vin,Value.int .i64 (T:Nat)]:Array Value).toList,u.oneCell'=true:=by
        intro u hu;simp at hu;rcases hu with rfl|rfl
        ·exact W2 Sv
        ·rfl
       obtain⟨w9,t7,cr9,m9⟩:=ap8 (P:=prog) cr aW2 (by rw[aa5];rfl) (cs:=#[vin,.int .i64 (T:Nat)]) (by rw[aa5];rfl) hone;have hov9:=hov.noMod m9 (fun b h=>.inr (by subst h;exact hgb0)) (fun b hb h=>by subst h;have:=hfv b hb;omega) (N':=fun b=>A3 vin b∨b<w7.heap.size) (fun b h=>.inl h) (fun b h=>.inl h);have hR9:R (B4 w9 (fun b=>b<w.heap.size)) vin (ins.map fun r=>Z1 r most):=hov9.ro (fun b o e=>by
        by_cases h:b<w7.heap.size
        ·rw[H8 (.inr h)]at e;cases e
        ·by_cases h2:A3 vin b
         ·rw[H8 (.inl h2)]at e;cases e
         ·rw[D3 (fun hh=>hh.elim h2 h)]at e;rw[D3 (by have:=st.ext.size;omega)];exact e) fun b hb=>D3 (by have:=hfv b hb;have:=st.ext.size;omega)
       have hlda9:=ac4 (P:=prog) cr9 bm7 bn5 bn0 (by rw[aa5];rfl);have hx9:o6 w w9:=o9.ext_of hx m9 fun b hb=>by subst hb;exact hfr'
       simp only[I0,simprocAttr,j8,j9,hlda,t7];refine L8 results198 (ad:=⟨rb,0,none⟩) (by simp only[p7,↓reduceIte,Nat.reduceEqDiff];exact j8) hlda9 ?_;simp only[hrb]at hR9;refine⟨⟨vin,ins.map fun r=>Z1 r most,T,rfl,hR9,by rw[ew5,si.ilen],fun b hb=>⟨O2 (wAt ins b),?_,fun i=>hfin b i hb⟩,hT1,hT2⟩,hx9⟩;have h1:=ag5 si.ilen hb;have hlen:(ins.map fun r=>Z1 r most).length=nx.length:=by rw[ew5,si.ilen]
       have h2:=(aj9 (nx:=ins.map fun r=>Z1 r most) (a:=b) (by rw[hlen];exact hb)).1;rw[ez2,h1]at h2;exact(ex1 h2).symm
theorem dd5:ag2 prog 197=true:=by kernel_rfl
theorem eh2:ag2 prog 198=true:=by kernel_rfl
structure cp2 (n:Int) (steps:List (Int×Int)) (gl kl:List (List Int)) (most:Int):Prop where
 n0:0≤n
 n5:n≤5000
 m0:0≤most
 m5:most≤5000
 gn:(gl.length:Int)=n
 kn:(kl.length:Int)=n
 st:∀s∈steps,aW5 n.toNat s
 gf:aN8 gl most.toNat
 kf:aN8 kl most.toNat
structure dC9 (nx gl kl:List (List Int)) (most:Nat) (sol:List (List Int)) (T:Nat):Prop where
 len:sol.length=nx.length
 row:∀b,H4 nx.length b=true→∃f:Nat→Bool,C2 sol b=((List.range most).filter f).map (fun(i:Nat)=>(i:Int))∧∀i,f i=true↔ar7 nx gl kl b i
 lo:nx.length≤T
 hi:T≤nx.length+nx.length*most
theorem ar1{P:Program}{fn:Func}{R:Value→World→Prop}{f:Fr}{w:World}{v:Value}{a t:Nat}{ty:TypeId}{ad:Addr}(h:fn.results=#[.cell a ty,.tmp t])(hf:f a = .pointer (some ad))(hl:(Instr.loadAt ty (.pointer (some ad))).run P w = .ok v w)(hR:R (.tuple #[v,f t]) w):by2 P fn R .ret f w:=by
 refine⟨[v,f t],?_,hR⟩;rw[h];refine⟨?_,rfl,trivial⟩;show(do loadVar ty (←asAddr (f a)):Sem Value).run P w = .ok v w;rw[hf];exact hl
theorem ch3:C1 prog 189 []=some (.agg #[.slice none 0 0,.int .i64 0]):=by
 first
 | (simp[C1,cG8,J6,Instr.fill];done)
 | rfl
theorem cz8(n most:Int)(gl kl:Nat):
  (decide (n<0)=true∧n<0)∨(decide (n<0)=false∧decide (n>5000)=true∧n>5000) ∨
  (decide (n<0)=false∧decide (n>5000)=false∧decide (most<0)=true∧most<0)∨(decide (n<0)=false∧decide (n>5000)=false∧decide (most<0)=false∧decide (most>5000)=true∧most>5000) ∨
  (decide (n<0)=false∧decide (n>5000)=false∧decide (most<0)=false∧decide (most>5000)=false∧((gl:Int) != n)=true∧(gl:Int)≠n) ∨
  (decide (n<0)=false∧decide (n>5000)=false∧decide (most<0)=false∧decide (most>5000)=false∧((gl:Int) != n)=false∧((kl:Int) != n)=true∧(kl:Int)≠n) ∨
  (decide (n<0)=false∧decide (n>5000)=false∧decide (most<0)=false∧decide (most>5000)=false∧((gl:Int) != n)=false∧((kl:Int) != n)=false∧0≤n∧n≤5000∧0≤most∧most≤5000∧(gl:Int)=n∧(kl:Int)=n):=by
 by_cases h1:n<0
 ·exact .inl ⟨by simpa using h1,h1⟩
 ·have e1:decide (n<0)=false:=by simpa using h1
  by_cases h2:n>5000
  ·exact .inr (.inl ⟨e1,by simpa using h2,h2⟩)
  ·have e2:decide (n>5000)=false:=by simpa using h2
   by_cases h3:most<0
   ·exact .inr (.inr (.inl ⟨e1,e2,by simpa using h3,h3⟩))
   ·have e3:decide (most<0)=false:=by simpa using h3
    by_cases h4:most>5000
    ·exact .inr (.inr (.inr (.inl ⟨e1,e2,e3,by simpa using h4,h4⟩)))
    ·have e4:decide (most>5000)=false:=by simpa using h4
     by_cases h5:(gl:Int)=n
     ·have e5:((gl:Int) != n)=false:=by simpa using h5
      by_cases h6:(kl:Int)=n
      ·exact .inr (.inr (.inr (.inr (.inr (.inr ⟨e1,e2,e3,e4,e5,by simpa using h6,by omega,by omega,by omega,by omega,h5,h6⟩)))))
      ·exact .inr (.inr (.inr (.inr (.inr (.inl ⟨e1,e2,e3,e4,e5,by simpa using h6,h6⟩)))))
     ·exact .inr (.inr (.inr (.inr (.inl ⟨e1,e2,e3,e4,by simpa using h5,h5⟩))))
theorem df1(n most:Int)(v vg vk:Value)(steps:List (Int×Int))(gl kl:List (List Int))(w:World)(hv:R (d7 w) v steps)(hvg:R (d7 w) vg gl)(hvk:R (d7 w) vk kl)(hsl:steps.length≤1000000)
  (hgl:∀x∈gl,x.length≤1000000000) (hkl:∀x∈kl,x.length≤1000000000) :
  Calls prog 136 #[.int .i64 n,v,vg,vk,.int .i64 most] w fun e w'=>∃u,e = .returned u∧((∃vs ok,u = .tuple #[vs,.bool ok] ∧
   (ok=true→cp2 n steps gl kl most∧∃vi sol T,vs = .agg #[vi,.int .i64 (T:Nat)]∧R (B4 w' (fun b=>b<w.heap.size)) vi sol∧dC9 (ah2 n.toNat steps).1 gl kl most.toNat sol T) ∧
   (ok=false→¬cp2 n steps gl kl most∧vs = .agg #[.slice none 0 0,.int .i64 0]))∧o6 w w'):=by
 refine d9 (args:=[.int .i64 n,v,vg,vk,.int .i64 most]) hm func136 rfl (by kernel_rfl) (by show 5≤_;decide +kernel) ?_;have hal:=br0;have hbs:=ch3;have hSg:=hvg.isS;have hng:=hvg.vlen;have hSk:=hvk.isS;have hnk:=hvk.vlen;have hS:=hv.isS;have hvn:=hv.vlen;have c1:(w.alloc (.cells #[.slice none 0 0,.int .i64 0] 189)).heap[w.heap.size]?=some (.cells #[.slice none 0 0,.int .i64 0] 189 (0,0)):=ez9 w _;have x1:=o6.alloc w (.cells #[.slice none 0 0,.int .i64 0] 189);generalize hw1:w.alloc (.cells #[.slice none 0 0,.int .i64 0] 189)=w1 at *;have hal1:=hal w;rw[hw1]at hal1;generalize hrb:w.heap.size=rb at c1 hal1;have hrl:rb<w1.heap.size:=(ew1.1 c1).1;have early:∀w2,o6 w w2→w2.heap[rb]?=some (.cells #[.slice none 0 0,.int .i64 0] 189 (0,0))→∃w3,(Instr.storeAt 189 (.pointer (some ⟨rb,0,none⟩)) (.agg #[.slice none 0 0,.int .i64 0])).run prog w2 = .ok () w3∧o6 w w3 ∧
   (Instr.loadAt 189 (.pointer (some ⟨rb,0,none⟩))).run prog w3 = .ok (.agg #[.slice none 0 0,.int .i64 0]) w3:=by
  intro w2 hx2 hc2;obtain⟨w3,t1,t2,t3⟩:=ap8 (P:=prog) hc2 aW2 (by rw[aa5];rfl) (cs:=#[.slice none 0 0,.int .i64 0]) (by rw[aa5];rfl) (by simp[Value.oneCell']);exact⟨w3,t1,o9.ext_of hx2 t3 fun b hb=>by subst hb;omega,ac4 (P:=prog) t2 bm7 bn5 bn0 (by rw[aa5];rfl)⟩
 obtain⟨w3,e1,e2,e3⟩:=early w1 x1 c1;rcases cz8 n most gl.length kl.length with⟨d1,hb⟩|⟨d1,d2,hb⟩|⟨d1,d2,d3,hb⟩|⟨d1,d2,d3,d4,hb⟩|⟨d1,d2,d3,d4,d5,hb⟩|⟨d1,d2,d3,d4,d5,d6,hb⟩|⟨d1,d2,d3,d4,d5,d6,hn0,hn5,hm0,hm5,hgn,hkn⟩
 ·simp only[I0,O1,B6,E6,simprocAttr,hal1,d1,hbs,e1];refine ar1 results136 (ad:=⟨rb,0,none⟩) (by simp only[p7,↓reduceIte,Nat.reduceEqDiff]) e3 ?_;simp only[p7,simprocAttr];exact⟨⟨_,false,rfl,(fun h=>(by cases h)),fun _=>⟨fun h=>by have:=h.n0;omega,rfl⟩⟩,e2⟩
 ·simp only[I0,O1,B6,E6,simprocAttr,hal1,d1,d2,hbs,e1];refine ar1 results136 (ad:=⟨rb,0,none⟩) (by simp only[p7,↓reduceIte,Nat.reduceEqDiff]) e3 ?_;simp only[p7,simprocAttr];exact⟨⟨_,false,rfl,(fun h=>(by cases h)),fun _=>⟨fun h=>by have:=h.n5;omega,rfl⟩⟩,e2⟩
 ·simp only[I0,O1,B6,E6,simprocAttr,hal1,d1,d2,d3,hbs,e1];refine ar1 results136 (ad:=⟨rb,0,none⟩) (by simp only[p7,↓reduceIte,Nat.reduceEqDiff]) e3 ?_;simp only[p7,simprocAttr];exact⟨⟨_,false,rfl,(fun h=>(by cases h)),fun _=>⟨fun h=>by have:=h.m0;omega,rfl⟩⟩,e2⟩
 ·simp only[I0,O1,B6,E6,simprocAttr,hal1,d1,d2,d3,d4,hbs,e1];refine ar1 results136 (ad:=⟨rb,0,none⟩) (by simp only[p7,↓reduceIte,Nat.reduceEqDiff]) e3 ?_;simp only[p7,simprocAttr];exact⟨⟨_,false,rfl,(fun h=>(by cases h)),fun _=>⟨fun h=>by have:=h.m5;omega,rfl⟩⟩,e2⟩
 ·simp only[I0,O1,B6,E6,Q4,simprocAttr,hal1,hSg,hng,d1,d2,d3,d4,d5,hbs,e1];refine ar1 results136 (ad:=⟨rb,0,none⟩) (by simp only[p7,↓reduceIte,Nat.reduceEqDiff]) e3 ?_;simp only[p7,simprocAttr];exact⟨⟨_,false,rfl,(fun h=>(by cases h)),fun _=>⟨fun h=>hb h.gn,rfl⟩⟩,e2⟩
 ·simp only[I0,O1,B6,E6,Q4,simprocAttr,hal1,hSg,hng,hSk,hnk,d1,d2,d3,d4,d5,d6,hbs,e1];refine ar1 results136 (ad:=⟨rb,0,none⟩) (by simp only[p7,↓reduceIte,Nat.reduceEqDiff]) e3 ?_;simp only[p7,simprocAttr];exact⟨⟨_,false,rfl,(fun h=>(by cases h)),fun _=>⟨fun h=>hb h.kn,rfl⟩⟩,e2⟩
 ·clear e1 e2 e3 w3;simp only[I0,O1,B6,E6,Q4,simprocAttr,hal1,hSg,hng,hSk,hnk,d1,d2,d3,d4,d5,d6,hS,hvn];obtain⟨N,hN⟩:∃N:Nat,n=N:=⟨n.toNat,by omega⟩;obtain⟨M,hM⟩:∃M:Nat,most=M:=⟨most.toNat,by omega⟩;have hNt:n.toNat=N:=by omega
  have hMt:most.toNat=M:=by omega
  have hbad:∀e:Int×Int,bo6 n e=false↔aW5 N e:=fun e=>by rw[hN];exact bP8
  refine n7 [0,1,2,3,4,10,45,46] (σ:=Nat) (fun k f w'=>f 47 = .int .i64 k∧k≤steps.length∧(∀e∈steps.take k,aW5 N e)∧o6 w1 w') (fun k=>steps.length-k) 0 (by decide +kernel) ?_ ?_
  ·simp only[p7,simprocAttr];exact⟨by first|rfl|trivial,ew6 _,by simp,o9.refl _⟩
  ·rintro k f w2 hk ⟨h47,hkle,hdone,hx⟩;simp only[ev6,p7,simprocAttr]at hk;obtain⟨e0,e1,e2,e3,e4,e10,e45,e46,_⟩:=hk;simp only[I0,B6,E6,simprocAttr,h47,e46];refine i5 (fun hc=>?_) (fun hc=>?_)
   ·have hlt:k<steps.length:=by simpa using hc
    have hin:=hv.inS hlt;have hld:=ldP hv (b7 (x1.trans hx)) (ev4 hlt);have hmem:steps[k]∈steps:=ew4 hlt;have htk:steps.take (k+1)=steps.take k++[steps[k]]:=ew3 hlt;generalize steps[k]=e at hld hmem htk;obtain⟨x,y⟩:=e;simp only at hld;obtain⟨p1,p2⟩:=cY7 w2 x y;have q0:=cY5 w2 x y;have q1:=cY6 w2 x y;have hx3:=hx.trans (o6.alloc w2 (.cells #[.int .i64 x,.int .i64 y] 128));generalize w2.alloc (.cells #[.int .i64 x,.int .i64 y] 128)=w3 at *;obtain⟨w4,g1,g2,g3⟩:=early w3 (x1.trans hx3) ((hx3.block rb hrl id).trans c1);have hnb:∀{b:Bool},bo6 n (x,y)=true→¬cp2 n steps gl kl most:=fun hb h=>by
     have h2:=h.st (x,y) hmem;rw[hNt]at h2;have:=(hbad (x,y)).2 h2;rw[hb]at this;cases this
    rcases cg7 n x y with⟨r1,hb⟩|⟨r1,r2,hb⟩|⟨r1,r2,r3,hb⟩|⟨r1,r2,r3,r4,hb⟩|⟨r1,r2,r3,r4,hb⟩
    case' inl=>simp only[I0,O1,B6,E6,y0,simprocAttr,h47,e45,hin,hld,p1,p2,q0,r1,e10,hbs,g1]
    case' inr.inl=>simp only[I0,O1,B6,E6,y0,simprocAttr,h47,e45,e0,hin,hld,p1,p2,q0,r1,r2,e10,hbs,g1]
    case' inr.inr.inl=>simp only[I0,O1,B6,E6,y0,simprocAttr,h47,e45,e0,hin,hld,p1,p2,q0,q1,r1,r2,r3,e10,hbs,g1]
    case' inr.inr.inr.inl=>simp only[I0,O1,B6,E6,y0,simprocAttr,h47,e45,e0,hin,hld,p1,p2,q0,q1,r1,r2,r3,r4,e10,hbs,g1]
    case' inr.inr.inr.inr=>simp only[I0,O1,B6,E6,y0,simprocAttr,h47,e45,e0,hin,hld,p1,p2,q0,q1,r1,r2,r3,r4]
    case inr.inr.inr.inr=>
     refine⟨k+1,by omega,by rw[B1 k (by omega)],by omega,fun e he=>?_,hx3⟩;rw[htk,ew8,ex9]at he;rcases he with he|he
     ·exact hdone e he
     ·subst he;exact(hbad _).1 hb
    all_goals
     refine ar1 results136 (ad:=⟨rb,0,none⟩) (by simp only[p7,↓reduceIte,Nat.reduceEqDiff];exact e10) g3 ?_;simp only[p7,simprocAttr];exact⟨⟨_,false,rfl,(fun h=>(by cases h)),fun _=>⟨hnb (b:=true) hb,rfl⟩⟩,g2⟩
   ·have hge:k=steps.length:=by simp at hc;omega
    subst hge;rw[ew7]at hdone;have hx2:=x1.trans hx;have hvg2:R (d7 w2) vg gl:=z7.mono (b7 hx2) hvg;have hs1:=bM3 vg gl M w2 hvg2 (by omega) (by omega) hgl;rw[←hM]at hs1;simp only[I0,simprocAttr,e2,e4];refine y5 dd5 hs1 ?_;rintro r1 w3 ⟨⟨ub,okg,hr1,hg1,hg2⟩,hx3⟩;subst hr1;have hvk3:R (d7 w3) vk kl:=z7.mono (b7 (hx2.trans hx3)) hvk;have hs2:=bM3 vk kl M w3 hvk3 (by omega) (by omega) hkl;rw[←hM]at hs2;simp only[I0,simprocAttr,e3,e4];refine y5 dd5 hs2 ?_;rintro r2 w4 ⟨⟨uk,okk,hr2,hk1,hk2⟩,hx4⟩;subst hr2;have hx14:=(hx.trans hx3).trans hx4;have hx04:=x1.trans hx14;obtain⟨w5,g1,g2,g3⟩:=early w4 hx04 ((hx14.block rb hrl id).trans c1);cases okg
    ·simp only[I0,O1,unV,simprocAttr,e10,hbs,g1];refine ar1 results136 (ad:=⟨rb,0,none⟩) (by simp only[p7,↓reduceIte,Nat.reduceEqDiff];exact e10) g3 ?_;simp only[p7,simprocAttr];exact⟨⟨_,false,rfl,(fun h=>(by cases h)),fun _=>⟨fun h=>hg2 rfl (by have:=h.gf;rw[hMt]at this;exact this),rfl⟩⟩,g2⟩
    ·cases okk
     ·simp only[I0,O1,unV,simprocAttr,e10,hbs,g1];refine ar1 results136 (ad:=⟨rb,0,none⟩) (by simp only[p7,↓reduceIte,Nat.reduceEqDiff];exact e10) g3 ?_;simp only[p7,simprocAttr];exact⟨⟨_,false,rfl,(fun h=>(by cases h)),fun _=>⟨fun h=>hk2 rfl (by have:=h.kf;rw[hMt]at this;exact this),rfl⟩⟩,g2⟩
     ·clear g1 g2 g3 w5;obtain⟨hgf,gs,hRg,hSg'⟩:=hg1 rfl;obtain⟨hkf,ks,hRk,hSk'⟩:=hk1 rfl;have hnew:=cd2 N v steps w4 (by omega) (z7.mono (b7 hx04) hv) (by omega);rw[←hN]at hnew;simp only[I0,O1,unV,simprocAttr,e0,e1];refine y5 dd0 hnew ?_;rintro pg w5 ⟨⟨Mb,hgo⟩,hx5⟩;have hgg:=ae9 N steps;have hgr:=hgo.read (b7 hx5);have hok:cp2 n steps gl kl most:=⟨hn0,hn5,hm0,hm5,hgn,hkn,by rw[hNt];exact hdone,by rw[hMt];exact hgf,by rw[hMt];exact hkf⟩;rw[hNt,hMt];generalize ah2 N steps=G at *;obtain⟨nx,pv⟩:=G;simp only at hgr;have hnl:nx.length=N:=hgg.nx.len;have hgg':aA1 nx.length (nx,pv):=by rw[hnl];exact hgg
      have hsol:=cn3 pg nx pv ub uk gs ks gl kl M w5 hgr hgg' (z7.mono (b7 (hx4.trans hx5)) hRg) (z7.mono (b7 hx5) hRk) hSg' hSk' (by omega) (by omega) hgf (by omega) (by omega);rw[←hM]at hsol;simp only[I0,simprocAttr,e4];refine y5 eh2 hsol ?_;rintro r3 w6 ⟨⟨vi,sol,T,hr3,hRs,hs1,hs2,hs3,hs4⟩,hx6⟩;subst hr3;have hx16:=(hx14.trans hx5).trans hx6;have Sv:=hRs.isS;have hone:∀u∈(#[vi,Value.int .i64 (T:Nat)]:Array Value).toList,u.oneCell'=true:=by
       intro u hu;simp at hu;rcases hu with rfl|rfl
       ·exact W2 Sv
       ·rfl
      obtain⟨w7,t1,t2,t3⟩:=ap8 (P:=prog) ((hx16.block rb hrl id).trans c1) aW2 (by rw[aa5];rfl) (cs:=#[vi,.int .i64 (T:Nat)]) (by rw[aa5];rfl) hone;have hlda:=ac4 (P:=prog) t2 bm7 bn5 bn0 (by rw[aa5];rfl);simp only[I0,simprocAttr,e10,t1];refine ar1 results136 (ad:=⟨rb,0,none⟩) (by simp only[p7,↓reduceIte,Nat.reduceEqDiff];exact e10) hlda ?_;simp only[p7,simprocAttr];refine⟨⟨_,true,rfl,fun _=>⟨hok,vi,sol,T,rfl,?_,⟨hs1,hs2,hs3,hs4⟩⟩,(fun h=>(by cases h))⟩,o9.ext_of (x1.trans hx16) t3 fun b hb=>by subst hb;omega⟩;have hrb5:rb<w5.heap.size:=eC6 hrl (hx14.trans hx5).size;refine z7.mono (H1 t3 (fun b hb=>by subst hb;exact hrb5) fun b hb=>.inl ?_) hRs;have:=(x1.trans (hx14.trans hx5)).size;omega
theorem ef1:ag2 prog 136=true:=by kernel_rfl
theorem dG5(x:Int)(w:World){h:Hp}(hw:B3 h (d7 w)):∃v w',(Instr.buildSlice 112 1 #[(0,.int .i64 x)]).run prog w = .ok v w'∧A8 h w' 3 v [x]∧o6 w w'∧(∀b,A3 v b→w.heap.size≤b):=
 lit (P:=prog) (w:=w) (h:=h) (α:=Int) (xs:=[.int .i64 x]) (ys:=[x]) (parts:=#[(0,.int .i64 x)]) (n:=1) ad9 rfl (L3.2 rfl) (by simp[Value.cells]) rfl rfl (by simp) (by simp) hw
theorem dJ8(w:World){vi:Value}(T:Int)(h1:isS vi=true):
  (Instr.alloc 189 true (.tuple #[])).run prog w = .ok (.pointer (some ⟨w.heap.size,0,none⟩)) (w.alloc (.cells #[.slice none 0 0,.int .i64 0] 189)) ∧
  (Instr.storeAt 189 (.pointer (some ⟨w.heap.size,0,none⟩)) (.agg #[vi,.int .i64 T])).run prog (w.alloc (.cells #[.slice none 0 0,.int .i64 0] 189)) =
   .ok () (w.alloc (.cells #[vi,.int .i64 T] 189)):=
 aU2 (P:=prog) (T:=189) aW2 (by rw[aa5];rfl) (cs:=#[vi,.int .i64 T]) (by rw[aa5];rfl) (by
  intro u hu;simp only[ex6,eB0,eG9]at hu;rcases hu with rfl|rfl
  ·exact W2 h1
  ·rfl)
theorem cQ1(w:World){vi:Value}{T:Int}:
  (Instr.loadAt 153 (.pointer (some ⟨w.heap.size,0,none⟩))).run prog (w.alloc (.cells #[vi,.int .i64 T] 189)) = .ok vi (w.alloc (.cells #[vi,.int .i64 T] 189)):=
 F0 (T:=189) (cs:=#[vi,.int .i64 T]) (i:=0) (ez9 w _) rfl S0
theorem cu7{nx:List (List Int)}(hg:D7 nx.length nx):OkR nx:=fun a b hb=>(hg.row _).2 _ hb
theorem ci0(a:Addr)(p:Pg)(i:Nat)(v vat:Value)(at_:List Nat)(w:World)(ha:At (d7 w) a (p6 p))(hr:E2 p)(hw:D0 p≤1000000)(hi:i<p.procs.length)(hv:R (d7 w) v ((D5 (b9 p) i).pairs (D5 (b9 p) i).data))(hvat:R (d7 w) vat (at_.map fun(a:Nat)=>(a:Int)))(hnd:at_.Nodup)(hlt:∀A∈at_,(A:Int)<(D5 (b9 p) i).n):
  Calls prog 86 #[.pointer (some a),.int .i64 i,v,vat] w fun e w'=>∃u,e = .returned u∧((∃sol,R (B4 w' (fun b=>b<w.heap.size)) u sol∧(sol.length:Int)=(D5 (b9 p) i).n∧(∀c:Nat,(c:Int)<(D5 (b9 p) i).n→∃g:Nat→Bool,C2 sol c=((List.range at_.length).filter g).map (fun(f:Nat)=>(f:Int))∧∀f A,at_[f]?=some A→(g f=true↔aT1 ((p6 p).nx i) at_ A c=true)))∧o6 w w'):=by
 refine d9 (args:=[.pointer (some a),.int .i64 i,v,vat]) hm func86 rfl (by kernel_rfl) (by show 4≤_;decide +kernel) ?_;obtain⟨x,pt⟩:=N1 hr.may hw i hi;have hwy:=P3 pt;generalize x+A6 p.procs[i].body=y at pt hwy;have h200:=J4 hr.may;have hn:=hwy.n;have hlen:=pt.ok.len;have hle':=pt.ok.le;have hdl:=aN5 hr hw hi hwy;have hpr:=bf6 hr hw hi hwy;have hpl:((D5 (b9 p) i).pairs (D5 (b9 p) i).data).length≤1000000:=ew2 (Nat.le_of_eq (ew5 _)) hdl;clear hdl;have hnxe:(p6 p).nx (i:Int)=(ah2 (D5 (b9 p) i).n.toNat ((D5 (b9 p) i).pairs (D5 (b9 p) i).data)).1:=by
  unfold Bk.nx;rw[K8 hi]
 obtain⟨sh,vw,_,_,_,_,has,hvw,_,_,_,_,ldb,_⟩:=ha.book rfl;obtain⟨aw,hcw,haw⟩:=aw9 (hv:=hvw) (k:=i) (p:=⟨D5 (b9 p) i⟩) (by show((J2 p).map fun w=>(⟨w⟩:Ptr Wy))[i]?=_;rw[ez2,V9 hi];rfl);simp only at haw;have hinw:=hvw.inS (k:=i) (by show i<((J2 p).map fun w=>(⟨w⟩:Ptr Wy)).length;unfold J2;simpa using hi);obtain⟨_,_,_,_,_,_,ldw,_⟩:=haw.wy;rw[hnxe];generalize(D5 (b9 p) i).pairs (D5 (b9 p) i).data=steps at hv hpr hpl;generalize(D5 (b9 p) i).n=wn at hn hlt ldw hpr;obtain⟨M,rfl⟩:∃M:Nat,wn=(M:Int):=⟨wn.toNat,by omega⟩;simp only[ex8];have hltM:∀A∈at_,A<M:=fun A hA=>by have:=hlt A hA;omega
 have hml:at_.length≤M:=by
  have:=I2 (m:=List.range M) hnd fun A hA=>ez3.2 (hltM A hA);simpa using this
 have lb:=ldb w (i4 _);have hlw:=G5 (P:=prog) (t:=126) hcw (i4 _) ar3;have lw:=ldw w (i4 _);have hz:z7.enc (d7 w) (Value.slice none 0 0).cells.toList ([]:List Int):=aU5 _;have mkI:=fun(wa:World) (ha:o6 w wa)=>mk (P:=prog) (w:=wa) (h:=d7 w) (α:=List Int) bV4 T4 (y:=[]) hz (n:=M) (by omega) (by omega) (b7 ha);obtain⟨il,hil,hil1⟩:=aR6 (P:=prog) T4 aE2;simp only[m8,n9,y0,simprocAttr,lb,hinw,hlw,lw];refine cs9 [2,3,9] (fun w'=>o6 w w') 6 (.op 0 (.op 2 (.fork [1,3] (fun i=>if i=1 then(B0 [4,3,5])else(B0 [1,4,5])))))
  (fun f' w'=>A8 (d7 w) w' 112 (f' 10) (List.replicate M ([]:List Int))∧A8 (d7 w) w' 112 (f' 11) (List.replicate M ([]:List Int))∧(∀b,A3 (f' 10) b→¬A3 (f' 11) b)∧o6 w w') (by decide +kernel) (by decide +kernel) (o6.drew w) ?_ ?_
 ·simp only[D6,B0,m8,simprocAttr];obtain⟨va,wA,m1,o1,xA,f1,_⟩:=mkI w.drew (o6.drew w);have hxA:=(o6.drew w).trans xA;obtain⟨vb,wB,m2,o2,xB,f2,_⟩:=mkI wA hxA;have hdj:∀b,A3 va b→¬A3 vb b:=fun b h1 h2=>by have:=o1.lt h1;have:=f2 b h2;omega
  refine at7 (by decide +kernel) (fun i hi=>?_);simp only[ex6,eB0,eG9]at hi;rcases hi with rfl|rfl
  ·simp only[D6,m8,simprocAttr,m1,m2,G0];exact⟨hxA,hxA.trans xB,o1.ext xB,o2,hdj,hxA.trans xB⟩
  ·simp only[D6,m8,simprocAttr,m1,m2,G0];exact⟨hxA,hxA.trans xB,o2,o1.ext xB,fun b h1 h2=>hdj b h2 h1,hxA.trans xB⟩
 rintro f w1 hk ⟨hog,hok,hdj,hx1⟩;simp only[ev6,p7,simprocAttr]at hk;obtain⟨e2,e3,e9,_⟩:=hk;generalize h10:f 10=vg at hog hdj;generalize h11:f 11=vk at hok hdj;have hSt:=hvat.isS;have hnt:=hvat.vlen;rw[ew5]at hnt;simp only[D6,m8,n9,simprocAttr,e3,hSt,hnt];refine n7 [2,3,9,10,11,33] (σ:=Nat×Value) (fun s f w'=>f 34 = .int .i64 s.1∧f 12=s.2∧s.1≤at_.length∧A8 (d7 w1) w' 3 s.2 ((List.range s.1).map fun(f:Nat)=>(f:Int))∧o6 w1 w') (fun s=>at_.length-s.1) (0,.slice none 0 0) (by decide +kernel) ?_ ?_
 ·simp only[p7,simprocAttr];exact⟨by first|rfl|trivial,trivial,ew6 _,A8.nil _ _ _,o9.refl _⟩
 rintro⟨k,ua⟩ f2 w2 hk ⟨h34,h12,hkl,hoa,hx2⟩;simp only at h34 h12 hkl hoa;simp only[ev6,p7,simprocAttr]at hk;obtain⟨g2,g3,g9,g10,g11,g33,_⟩:=hk;rw[e2]at g2;rw[e3]at g3;rw[e9]at g9;rw[h10]at g10;rw[h11]at g11;simp only[m8,n9,simprocAttr,h34,g33];refine i5 (fun hc=>?_) (fun hc=>?_)
 ·have hltk:k<at_.length:=by simpa using hc
  obtain⟨p1,u3,w3,p2,p3,p4,p5⟩:=push (P:=prog) (t:=112) (e:=112) ad9 rfl hoa (x:=.int .i64 (k:Int)) (y:=(k:Int)) rfl (by rw[ew5,eB2];omega) (by rw[ew5,eB2];omega) (b7 hx2);simp only[Value.cells]at p1 p2;simp only[m8,n9,simprocAttr,h34,h12,p1,p2];refine⟨(k+1,u3),by simp only[];omega,by simp only[];rw[B1 k (by omega)],by trivial,by simp only[];omega,?_,hoa.ext2 hx2 p4⟩;simp only[];have e:(List.range (k+1)).map (fun(f:Nat)=>(f:Int))=(List.range k).map (fun(f:Nat)=>(f:Int))++[(k:Int)]:=by
   rw[eG4,ey8,List.map_singleton]
  rw[e];exact p3
 have hge:k=at_.length:=by simp at hc;omega
 subst hge;have hx02:=hx1.trans hx2;have hNge:∀b,(A3 vg b∨A3 vk b)→w.heap.size≤b∧b<w1.heap.size:=fun b h=>by
  rcases h with h|h
  ·exact⟨C6 (hog.free h),hog.lt h⟩
  ·exact⟨C6 (hok.free h),hok.lt h⟩
 have hb02:B3 (d7 w) (B4 w2 (fun b=>A3 vg b∨A3 vk b)):=aG2 hx02 fun b hb=>(hNge b hb).1;have hog2:=(hog.ext hx2).reNo (N:=fun b=>A3 vg b∨A3 vk b) hb02 fun b hb=>.inl hb;have hok2:=(hok.ext hx2).reNo (N:=fun b=>A3 vg b∨A3 vk b) hb02 fun b hb=>.inr hb;have hua:R (B4 w2 (fun b=>A3 vg b∨A3 vk b)) ua ((List.range at_.length).map fun(f:Nat)=>(f:Int)):=hoa.flatR fun b hb=>D3 fun h=>by
  have h1:=C6 (hoa.free hb);have:=(hNge b h).2;omega
 have hSa:=hua.isS;simp only[m8,n9,simprocAttr,g3,hSt,hnt];refine n7 [2,3,9,10,11,12,42,43] (σ:=Nat) (fun k f w'=>f 44 = .int .i64 k∧k≤at_.length∧A8 (B4 w' (fun b=>A3 vg b∨A3 vk b)) w' 112 vg (ab6 at_ (fun f=>[(f:Int)]) M k)∧A8 (B4 w' (fun b=>A3 vg b∨A3 vk b)) w' 112 vk (ab6 at_ (fun _=>(List.range at_.length).map fun(f:Nat)=>(f:Int)) M k)∧o9 (fun b=>A3 vg b∨A3 vk b) w2 w') (fun k=>at_.length-k) 0 (by decide +kernel) ?_ ?_
 ·simp only[p7,simprocAttr];exact⟨by trivial,ew6 _,hog2,hok2,o9.refl _⟩
 rintro k f4 w4 hk ⟨h44,hkl4,hog4,hok4,hm4⟩;simp only[ev6,p7,simprocAttr]at hk;obtain⟨j2,j3,j9,j10,j11,j12,j42,j43,_⟩:=hk;rw[g2]at j2;rw[g3]at j3;rw[g9]at j9;rw[g10]at j10;rw[g11]at j11;rw[h12]at j12;have hx04:o6 w w4:=o9.ext_of hx02 hm4 fun b hb=>(hNge b hb).1;have hm4l:B3 (B4 w2 (fun b=>A3 vg b∨A3 vk b)) (B4 w4 (fun b=>A3 vg b∨A3 vk b)):=H1 hm4 (fun _ h=>h) fun _ h=>.inl h;simp only[m8,n9,simprocAttr,h44,j43];refine i5 (fun hc2=>?_) (fun hc2=>?_)
 ·have hltk:k<at_.length:=by simpa using hc2
  have hin:=hvat.inS (k:=k) (by rw[ew5];exact hltk);have hld:=aI4 hvat (b7 hx04) (k:=k) (by rw[ew5];exact hltk);rw[eD7]at hld;have hAM:=hltM _ (ew4 hltk);have hgd:at_.getD k 0=at_[k]:=by rw[List.getD,ev4 hltk];rfl
  generalize at_[k]=A at hld hAM hgd;obtain⟨ul,w5,q1,q2,q3,q4⟩:=dG5 (k:Int) w4 (i4 _);have hl45:B3 (B4 w4 (fun b=>A3 vg b∨A3 vk b)) (B4 w5 (fun b=>A3 vg b∨A3 vk b)):=H1 q3 (fun _ h=>h.elim) fun _ h=>.inl h;have hNlt:∀b,(A3 vg b∨A3 vk b)→b<w4.heap.size:=fun b hb=>eC6 (hNge b hb).2 (ew2 hx2.size hm4.size);have hul:R (B4 w5 (fun b=>A3 vg b∨A3 vk b)) ul [(k:Int)]:=q2.flatR fun b hb=>D3 fun h=>by
   have h1:=q4 b hb;have:=hNlt b h;omega
  have hog5:=(hog4.ext q3).up hl45 fun b hb=>H8 (.inl hb);have hok5:=(hok4.ext q3).up hl45 fun b hb=>H8 (.inr hb);obtain⟨w6,s1,hog6,hm6,_⟩:=E0 (P:=prog) (t:=112) hog5 rfl (k:=A) (by rw[U5];exact hAM) (x:=ul) (y:=[(k:Int)]) hul (D9 q2.isS) hil hil1;have hl56:B3 (B4 w5 (fun b=>A3 vg b∨A3 vk b)) (B4 w6 (fun b=>A3 vg b∨A3 vk b)):=H1 hm6 (fun _ h=>.inl h) fun _ h=>.inl h;have hok6:=(hok5.mod hm6 fun b hb hb2=>hdj b hb2 hb).up hl56 fun b hb=>H8 (.inr hb);have hua6:=z7.mono (p9 hm4l (p9 hl45 hl56)) hua;obtain⟨w7,s2,hok7,hm7,_⟩:=E0 (P:=prog) (t:=112) hok6 rfl (k:=A) (by rw[U5];exact hAM) (x:=ua) (y:=(List.range at_.length).map fun(f:Nat)=>(f:Int)) hua6 (D9 hSa) hil hil1;have hl67:B3 (B4 w6 (fun b=>A3 vg b∨A3 vk b)) (B4 w7 (fun b=>A3 vg b∨A3 vk b)):=H1 hm7 (fun _ h=>.inr h) fun _ h=>.inl h;have hog7:=(((hog6.up hl56 fun b hb=>H8 (.inl hb)).mod hm7 fun b hb hb2=>hdj b hb hb2)).up hl67 fun b hb=>H8 (.inl hb);have hok7':=hok7.up hl67 fun b hb=>H8 (.inr hb);have hing:=hog5.inS (k:=A) (by rw[U5];exact hAM);have hink:=hok6.inS (k:=A) (by rw[U5];exact hAM);simp only[m8,n9,y0,simprocAttr,h44,j10,j11,j12,j42,hin,hld,q1,hing,s1,hink,s2];refine⟨k+1,by omega,by rw[B1 k (by omega)],by omega,?_,?_,?_⟩
  ·rw[ab6,hgd];exact hog7
  ·rw[ab6,hgd];exact hok7'
  ·exact(hm4.trans (o9.up q3)).trans ((o9.weaken hm6 fun b _ h=>.inl h).trans (o9.weaken hm7 fun b _ h=>.inr h))
 have hge:k=at_.length:=by simp at hc2;omega
 subst hge;have hrowg:=bv6 (g:=fun f=>[(f:Int)]) (n:=M) hnd hltM;have hrowk:=bv6 (g:=fun _=>(List.range at_.length).map fun(f:Nat)=>(f:Int)) (n:=M) hnd hltM;have hgg:∀r∈ab6 at_ (fun f=>[(f:Int)]) M at_.length,r.length≤1000∧∀f∈r,0≤f∧f<(at_.length:Int):=fun r hr=>by
  obtain⟨q,hq⟩:=eD3.1 hr;rcases at9 hnd hltM _ (ex0 _) q r hq with⟨f,hf,_,rfl⟩|⟨_,rfl⟩
  ·exact⟨by simp,fun f' hf'=>by simp at hf';omega⟩
  ·exact⟨by simp,fun f' hf'=>by simp at hf'⟩
 have hkk:∀r∈ab6 at_ (fun _=>(List.range at_.length).map fun(f:Nat)=>(f:Int)) M at_.length,r.length≤1000∧∀f∈r,0≤f∧f<(at_.length:Int):=fun r hr=>by
  obtain⟨q,hq⟩:=eD3.1 hr;rcases at9 hnd hltM _ (ex0 _) q r hq with⟨f,hf,_,rfl⟩|⟨_,rfl⟩
  ·refine⟨by simp;omega,fun f' hf'=>?_⟩;obtain⟨z,hz,rfl⟩:=ey1.1 hf';have:=ez3.1 hz;omega
  ·exact⟨by simp,fun f' hf'=>by simp at hf'⟩
 have hgl:=U5 at_ (fun f=>[(f:Int)]) M at_.length;have hkl:=U5 at_ (fun _=>(List.range at_.length).map fun(f:Nat)=>(f:Int)) M at_.length;generalize ab6 at_ (fun f=>[(f:Int)]) M at_.length=gl at hog4 hrowg hgg hgl;generalize ab6 at_ (fun _=>(List.range at_.length).map fun(f:Nat)=>(f:Int)) M at_.length=kl at hok4 hrowk hkk hkl;have hofok:cp2 (M:Int) steps gl kl (at_.length:Int):=by
  refine⟨by omega,by omega,by omega,by omega,by omega,by omega,fun s hs=>?_,fun r hr f hf=>?_,fun r hr f hf=>?_⟩
  ·have:=hpr s hs;rw[ex8];unfold aW5;omega
  ·have:=(hgg r hr).2 f hf;rw[ex8];exact this
  ·have:=(hkk r hr).2 f hf;rw[ex8];exact this
 simp only[m8,n9,simprocAttr,j2,j3,j9,j10,j11,hSt,hnt];refine y5 ef1 (df1 (M:Int) (at_.length:Int) v vg vk steps gl kl w4 (z7.mono (b7 hx04) hv) (hog4.rw_ (B7 _ _)) (hok4.rw_ (B7 _ _)) (by omega) (fun r hr=>by have:=(hgg r hr).1;omega) fun r hr=>by have:=(hkk r hr).1;omega) ?_;rintro _ w5 ⟨⟨vs,okb,rfl,hyes,hno⟩,hx5⟩;cases okb with
 | false=>exact absurd hofok (hno rfl).1
 | true=>
  obtain⟨_,vi,sol,T,rfl,hsol,hso⟩:=hyes rfl;have hSi:=hsol.isS;obtain⟨al,st⟩:=dJ8 w5 (T:Int) hSi;have lin:=cQ1 w5 (vi:=vi) (T:=(T:Int));simp only[m8,n9,simprocAttr,al,st,lin];refine n8 results86 ?_;simp only[p7,simprocAttr];have hxa:=o6.alloc w5 (.cells #[vi,.int .i64 (T:Int)] 189);have hgood:=(ae9 M steps).nx;have hgl2:=hgood.len;rw[ex8]at hso;refine⟨⟨sol,?_,?_,fun c hcM=>?_⟩,(hx04.trans hx5).trans hxa⟩
  ·refine z7.mono (fun b o e=>?_) hsol;have hn1:¬b<w4.heap.size:=fun h=>by rw[H8 (N:=fun b=>b<w4.heap.size) h]at e;cases e
   rw[D3 (N:=fun b=>b<w4.heap.size) hn1]at e;rw[D3 (N:=fun b=>b<w.heap.size) (fun h=>hn1 (eC6 h hx04.size))];exact b7 hxa b o e
  ·rw[hso.len,hgl2]
  ·obtain⟨g,hg1,hg2⟩:=hso.row (c:Int) (C4.2 ⟨by omega,by rw[hgl2];exact hcM⟩);rw[ex8]at hg1;refine⟨g,hg1,fun f A hf=>?_⟩;rw[hg2,bQ7 (cu7 (by rw[hgl2];exact hgood)),ci1 ?_ ?_ hf]
   ·intro a' f';rw[hrowg];constructor
    ·rintro⟨f2,A2,h1,h2,h3⟩;have:f'=f2:=by simp at h3;omega
     subst this;exact⟨A2,h1,h2⟩
    ·rintro⟨A2,h1,h2⟩;exact⟨f',A2,h1,h2,by simp⟩
   ·intro a' f' hf';rw[hrowk];constructor
    ·rintro⟨f2,A2,h1,h2,_⟩;exact⟨A2,ex5 h1,h2⟩
    ·rintro⟨A2,h1,h2⟩;obtain⟨f2,hf2⟩:=eD3.1 h1;exact⟨f2,A2,hf2,h2,ey1.2 ⟨f',ez3.2 hf',rfl⟩⟩
section
section
variable {P:Program} {K:Fr→World→Prop} {f:Fr} {w:World} {d:Option Nat} {ty:TypeId} {pos:String} {aft:Array Edge}
theorem cA2{t:Nat}{x:Operand}:A9 P none ⟨d,.range t x,ty,pos,aft,none⟩ K f w=ad4 ((Instr.range t (ev f x)).run P w) K f d:=by
 show N8 P _ K f w=_;unfold N8;simp only[execOp,ey2];generalize(Instr.range t (ev f x)).run P w=r;cases r<;>rfl
theorem cd3{x:Operand}{s:Bool}:A9 P none ⟨d,.next x s,ty,pos,aft,none⟩ K f w=ad4 ((Instr.next (ev f x) s ty).run P w) K f d:=by
 show N8 P _ K f w=_;unfold N8;simp only[execOp,ey2];generalize(Instr.next (ev f x) s ty).run P w=r;cases r<;>rfl
theorem cA1{x:Operand}:A9 P none ⟨d,.entry x,ty,pos,aft,none⟩ K f w=ad4 ((Instr.entry (ev f x)).run P w) K f d:=by
 show N8 P _ K f w=_;unfold N8;simp only[execOp,ey2];generalize(Instr.entry (ev f x)).run P w=r;cases r<;>rfl
end
open Go.ChangeMaps (setBlock)
structure RgI (w:World) (it r:Nat) (es:Array MapEntry) (clock:Nat) (D:List Nat):Prop where
 cur:∃c0,clock≤c0∧w.heap[it]?=some (.mapIter (some r) clock (D.map fun j=>(es.getD j default).born).toArray c0)
 map:w.heap[r]?=some (.map es clock)
 born:∀x∈es.toList,x.born<clock
 nd:(es.toList.map (·.born)).Nodup
 dn:D.Nodup
 dl:∀j∈D,j<es.size
theorem RgI.mod{w w':World}{it r:Nat}{es:Array MapEntry}{clock:Nat}{D:List Nat}{M:Nat→Prop}(s:RgI w it r es clock D)(h:o9 M w w')(h1:¬M it)(h2:¬M r):RgI w' it r es clock D:=by
 obtain⟨c0,hc,e⟩:=s.cur;exact⟨⟨c0,hc,(h.block it (ew1.1 e).1 h1).trans e⟩,(h.block r (ew1.1 s.map).1 h2).trans s.map,s.born,s.nd,s.dn,s.dl⟩
theorem bC6{w:World}{it:Nat}{o:Obj}:o9 (fun b=>b=it) w (setBlock w it o):=bC8 w it o
theorem RgI.next{P:Program}{w:World}{it r:Nat}{es:Array MapEntry}{clock:Nat}{D:List Nat}(s:RgI w it r es clock D)(hne:it≠r)(ty:TypeId):
  ((∀j,j<es.size→j∈D)∧(Instr.next (.pointer (some ⟨it,0,none⟩)) false ty).run P w = .ok (.tuple #[.bool false]) w) ∨
  ∃(j:Nat) (e:MapEntry) (w':World),es[j]?=some e∧j∉D∧(Instr.next (.pointer (some ⟨it,0,none⟩)) false ty).run P w = .ok (.tuple #[.bool true,e.key,e.val]) w'∧RgI w' it r es clock (D++[j])∧o9 (fun b=>b=it) w w' ∧
   (∀w'',o9 (fun b=>b≠it∧b≠r) w' w''→(Instr.entry (.pointer (some ⟨it,0,none⟩))).run P w'' = .ok (.tuple #[e.key,e.val]) w''):=by
 obtain⟨c0,hc,e⟩:=s.cur;have hb:∀j k,j<es.size→k<es.size→(es.getD j default).born=(es.getD k default).born→j=k:=fun j k hj hk h=>by
  have h3:=eD4.1 s.nd;have hg:∀j (hj:j<es.size),(es.toList.map (·.born))[j]'(by simpa using hj)=(es.getD j default).born:=fun j hj=>by
   simp[Array.getD,hj]
  rcases Nat.lt_trichotomy j k with h1|h1|h1
  ·exact absurd (by rw[hg j hj,hg k hk];exact h) (h3 j k (by simpa using hj) (by simpa using hk) h1)
  ·exact h1
  ·exact absurd (by rw[hg j hj,hg k hk];exact h.symm) (h3 k j (by simpa using hk) (by simpa using hj) h1)
 have hin:∀j,j<es.size→(((D.map fun j=>(es.getD j default).born).toArray.contains (es.getD j default).born)=true↔j∈D):=fun j hj=>by
  rw[←Array.contains_toList,ex7,ey1];constructor
  ·rintro⟨k,hk,h⟩;have:=hb k j (s.dl k hk) hj h;rw[←this];exact hk
  ·exact fun h=>⟨j,h,rfl⟩
 rcases run_next_at (P:=P) w ty it r clock c0 _ es clock e s.map s.born hc with⟨h1,h2⟩|⟨x,hx,w1,hw1,hrun⟩
 ·left;refine⟨fun j hj=>?_,h2⟩;refine eF7 fun hnj=>?_;have h0:leftOf es (D.map fun j=>(es.getD j default).born).toArray=#[]:=Array.eq_empty_of_size_eq_zero h1;unfold leftOf at h0;rw[Array.filter_eq_empty_iff]at h0;have h3:=h0 es[j] (Array.getElem_mem hj);have h4:es.getD j default=es[j]:=by simp[Array.getD,hj]
  have h5:=hin j hj;rw[h4]at h5;rw[Bool.not_eq_true',eG1]at h3;exact hnj (h5.1 (Classical.not_not.1 h3))
 ·right;unfold leftOf at hx;have hx':x∈es.toList∧(!(D.map fun j=>(es.getD j default).born).toArray.contains x.born)=true:=by simpa using hx
  obtain⟨j,hj,rfl⟩:=eB1.1 hx'.1;have hj':j<es.size:=by simpa using hj
  have hget:es.getD j default=es.toList[j]:=by simp[Array.getD,hj']
  have hnj:j∉D:=fun h=>by
   have:=(hin j hj').2 h;rw[hget]at this;rw[this]at hx';simp at hx'
  have hM1:o9 (fun b=>b=it) w w1:=by
   rcases hw1 with rfl|rfl
   ·exact o9.refl _
   ·exact o9.up (o6.drew w)
  have hitl:it<w1.heap.size:=eC6 (ew1.1 e).1 hM1.size;have hseen:((D.map fun j=>(es.getD j default).born).toArray.push es.toList[j].born)=((D++[j]).map fun j=>(es.getD j default).born).toArray:=by
   rw[ey8,←hget];simp
  have hmod:o9 (fun b=>b=it) w (setBlock w1 it (.mapIter (some r) clock ((D.map fun j=>(es.getD j default).born).toArray.push es.toList[j].born) clock)):=hM1.trans bC6;have hmap':=(hmod.block r (ew1.1 s.map).1 fun h=>hne h.symm).trans s.map;have hit':(setBlock w1 it (.mapIter (some r) clock ((D.map fun j=>(es.getD j default).born).toArray.push es.toList[j].born) clock)).heap[it]?=some (.mapIter (some r) clock ((D.map fun j=>(es.getD j default).born).toArray.push es.toList[j].born) clock):=by
   show(w1.heap.setIfInBounds it _)[it]?=_;simp[hitl]
  refine⟨j,es.toList[j],_,by rw[eE5 hj'];simp,hnj,hrun,⟨⟨clock,ex0 _,by rw[←hseen];exact hit'⟩,hmap',s.born,s.nd,?_,fun k hk=>?_⟩,hmod,fun w'' h=>?_⟩
  ·rw[eA4];exact⟨s.dn,by simp,fun a ha b hb=>by simp at hb;subst hb;rintro rfl;exact hnj ha⟩
  ·rcases ew8.1 hk with h|h
   ·exact s.dl k h
   ·simp at h;subst h;exact hj'
  ·exact run_entry_at (P:=P) w'' it r clock _ es clock es.toList[j] ((h.block it (ew1.1 hit').1 fun h=>h.1 rfl).trans hit') ((h.block r (ew1.1 hmap').1 fun h=>h.2 rfl).trans hmap') (ew4 hj) s.nd
end
theorem es9:ag2 prog 84=true:=by kernel_rfl
theorem et0:ag2 prog 85=true:=by kernel_rfl
theorem et1:ag2 prog 86=true:=by kernel_rfl
theorem et2:ag2 prog 89=true:=by kernel_rfl
theorem cf7(a:Addr)(p:Pg)(i:Nat)(w:World)(ha:At (d7 w) a (p6 p))(hr:E2 p)(hw:D0 p≤1000000)(hi:i<p.procs.length):
  Calls prog 47 #[.pointer (some a),.int .i64 i] w fun e w'=>∃u,e = .returned u∧(A8 (d7 w) w' 97 u ((p6 p).flows (i:Int))∧o6 w w'):=by
 refine d9 (args:=[.pointer (some a),.int .i64 i]) hm func47 rfl (by kernel_rfl) (by show 2≤_;decide +kernel) ?_;obtain⟨x,pt⟩:=N1 hr.may hw i hi;have hwy:=P3 pt;generalize x+A6 p.procs[i].body=y at pt hwy;have h200:=J4 hr.may;have hn:=hwy.n;have hlen:=pt.ok.len;have hle':=pt.ok.le;have hdl:=aN5 hr hw hi hwy;have hrg:=bz2 hr hw hi hwy;have hdl':(D5 (b9 p) i).data.length≤10000000:=ew2 hdl (by decide);obtain⟨M,hM⟩:∃M:Nat,(D5 (b9 p) i).n=(M:Int):=by
  generalize(D5 (b9 p) i).n=wn at hn;exact⟨wn.toNat,by omega⟩
 have hM202:M≤202:=by rw[hM]at hn;clear hdl hdl';omega
 have hbw:(p6 p).way (i:Int)=D5 (b9 p) i:=K8 hi;have hbM:((p6 p).way (i:Int)).n.toNat=M:=by rw[hbw,hM,ex8]
 have hinj:bq7 ((p6 p).way (i:Int)):=by rw[hbw];exact df5 hwy.toWyOk h200
 have hplc:∀a:Nat,a<((p6 p).way (i:Int)).n.toNat→plc (((p6 p).way (i:Int)).place a):=by rw[hbw];exact df6 hwy.toWyOk h200
 have hgr:∀k:Nat,k<((p6 p).way (i:Int)).n.toNat→((p6 p).gives (i:Int) (k:Int)).Nodup∧((p6 p).gives (i:Int) (k:Int)).length≤100:=fun k hk=>by
  rw[hbM]at hk;have h:=aL1 hr hw hi (k:=k) (by rw[hM];exact Int.ofNat_lt.2 hk);exact⟨ao0 h.1,h.2⟩
 have htk:=fun(c:Nat) (hc:c<M)=>bW3 hr hw hi (k:=c) (by rw[hM];exact Int.ofNat_lt.2 hc);obtain⟨sh,vw,_,_,_,_,has,hvw,_,_,_,_,ldb,_⟩:=ha.book rfl;obtain⟨aw,hcw,haw⟩:=aw9 (hv:=hvw) (k:=i) (p:=⟨D5 (b9 p) i⟩) (by show((J2 p).map fun w=>(⟨w⟩:Ptr Wy))[i]?=_;rw[ez2,V9 hi];rfl);simp only at haw;have hinw:=hvw.inS (k:=i) (by show i<((J2 p).map fun w=>(⟨w⟩:Ptr Wy)).length;unfold J2;simpa using hi);obtain⟨_,_,_,_,_,_,ldw,_⟩:=haw.wy;have lb:=ldb w (i4 _);have hlw:=G5 (P:=prog) (t:=126) hcw (i4 _) ar3;simp only[m8,n9,y0,simprocAttr,lb,hinw,hlw];refine y5 dF7 (bE3 aw _ p i x y w haw hr hw hi hwy) ?_;rintro vd w1 ⟨hod,hx1⟩;simp only[m8,simprocAttr];refine y5 bI8 (ak4 aw _ p i x y vd _ w1 (haw.mono (b7 hx1)) hwy.toWyOk (hod.rw_ (b7 hx1)) hrg hdl') ?_;rintro vp w2 ⟨hop,hx2⟩;have hvp:=hop.rw_ (b7 hx2);clear hdl hdl' hrg;simp only[m8,simprocAttr];refine y5 es9 (ck0 a p i w2 (ha.mono (b7 (hx1.trans hx2))) hr hw hi) ?_;rintro _ w3 ⟨r,kv,cn,rfl,hG⟩;have hx03:=hx1.trans (hx2.trans hG.ext);have lw:=ldw w3 (b7 hx03);simp only[hM]at lw;have hz:z7.enc (d7 w3) (Value.slice none 0 0).cells.toList ([]:List A4):=aU5 _;obtain⟨vt,w4,m1,ot4,x4,f4,_⟩:=mk (P:=prog) (w:=w3) (h:=d7 w3) (α:=List A4) cd7 bO4 (y:=[]) hz (n:=M) (by omega) (by omega) (i4 _);obtain⟨il,hil,hil1⟩:=aR6 (P:=prog) bO4 cH5;have hSt:=ot4.isS;have hnt:=ot4.vlen;rw[eA5]at hnt;simp only[m8,n9,simprocAttr,lw,m1,hSt,hnt];have hN4:∀b,A3 vt b→w3.heap.size≤b∧b<w4.heap.size:=fun b hb=>⟨f4 b hb,ot4.lt hb⟩;have ot4':=ot4.reNo (aG2 x4 fun b hb=>(hN4 b hb).1) (fun b hb=>hb);rw[bV1 (fun c=>(p6 p).takes (i:Int) (c:Int)) M]at ot4';refine n7 [0,1,5,6,7,8,10,41] (σ:=Nat) (fun k f w'=>f 42 = .int .i64 k∧k≤M∧A8 (B4 w' (A3 vt)) w' 22 vt (az1 (fun c=>(p6 p).takes (i:Int) (c:Int)) M k)∧o6 w3 w'∧w4.heap.size≤w'.heap.size) (fun k=>M-k) 0 (by decide +kernel) ?_ ?_
 ·simp only[p7,simprocAttr];exact⟨by first|rfl|trivial,ew6 _,ot4',x4,ex0 _⟩
 rintro k f w5 hk ⟨h42,hkl,ot5,hx35,hs5⟩;simp only[ev6,p7,simprocAttr]at hk;obtain⟨e0,e1,e5,e6,e7,e8,e10,e41,_⟩:=hk;have hx05:=hx03.trans hx35;simp only[m8,n9,simprocAttr,h42,e41];refine i5 (fun hc=>?_) (fun hc=>?_)
 ·have hltk:k<M:=by simpa using hc
  simp only[m8,simprocAttr,h42,e0,e1,e10];refine y5 et0 (cg4 (d7 w) a p i k w5 ha (b7 hx05) hr hw hi (by rw[hM];exact Int.ofNat_lt.2 hltk)) ?_;rintro u w6 ⟨hu,hx6⟩;have huN:R (B4 w6 (A3 vt)) u ((p6 p).takes (i:Int) (k:Int)):=z7.mono (cb6 (b7 hx05) hx6 fun b hb=>⟨eC6 (hN4 b hb).2 hs5,bd3 (ew2 hx03.size (hN4 b hb).1)⟩) hu;have ot6:=(ot5.ext hx6).up (H1 hx6 (fun _ h=>h.elim) fun _ h=>.inl h) fun b hb=>H8 hb;obtain⟨w7,s1,ot7,hm7,hs7⟩:=E0 (P:=prog) (t:=22) ot6 rfl (k:=k) (by rw[aV0];exact hltk) (x:=u) (y:=(p6 p).takes (i:Int) (k:Int)) huN (D9 huN.isS) hil hil1;have ot7':=ot7.up (H1 hm7 (fun _ h=>h) fun _ h=>.inl h) fun b hb=>H8 hb;have hin:=ot6.inS (k:=k) (by rw[aV0];exact hltk);rw[cn0 (T:=fun c=>(p6 p).takes (i:Int) (c:Int))]at ot7';have hs6:=hx6.size;simp only[m8,n9,y0,simprocAttr,h42,hin,s1];exact⟨k+1,by omega,by rw[B1 k (by omega)],by omega,ot7',o9.ext_of (hx35.trans hx6) hm7 fun b hb=>(hN4 b hb).1,by omega⟩
 have hge:M=k:=by simp at hc;omega
 subst hge;have hvt:=ot5.rw_ (B7 _ _);have hvp5:=z7.mono (b7 (hG.ext.trans hx35)) hvp;have hG5:=hG.more hx35;obtain⟨es,clock,hes,hkv,hknd,hborn,hbnd⟩:=hG5.map;have hrun:=run_range_map (P:=prog) w5 146 _ _ r es clock Tryz.underlying146 hes;have hxa:=o6.alloc w5 (.mapIter (some r) clock #[] clock);have hr0:RgI (w5.alloc (.mapIter (some r) clock #[] clock)) w5.heap.size r es clock []:=⟨⟨clock,ex0 _,ez9 _ _⟩,((o6.alloc _ _).block _ (ew1.1 hes).1 id).trans hes,hborn,hbnd,List.nodup_nil,by simp⟩;generalize w5.alloc (.mapIter (some r) clock #[] clock)=w6 at hrun hxa hr0;have hrlt:r<w5.heap.size:=(ew1.1 hes).1;have hkl2:kv.length=es.size:=by
  have:=ex3 List.length hkv;simpa using this.symm
 have hkeysG:∀n,(p6 p).givers (i:Int) n≠[]↔n∈kv.map (·.1):=fun n=>by
  have hgn:cu2 p i n=((p6 p).givers (i:Int) n).map fun(a:Nat)=>(a:Int):=rfl;constructor
  ·intro h;cases e:K9 kv n with
   | none=>
    have:=hG5.no n e;rw[hgn,List.map_eq_nil_iff]at this;exact absurd this h
   | some v=>exact ey1.2 ⟨_,cu0 e,rfl⟩
  ·intro h e;obtain⟨⟨m,v⟩,h1,rfl⟩:=ey1.1 h;have:=(hG5.row m v (bH7 hknd h1)).2;rw[hgn]at this;simp only at e;rw[e]at this;exact this rfl
 have hkl3:kv.length≤M*100:=by
  have h:=cy0 (b:=p6 p) (i:=(i:Int)) hknd (fun n hn=>(hkeysG n).2 hn) fun a ha=>(hgr a ha).2;rw[hbM,ew5]at h;exact h
 simp only[m8,simprocAttr,e8,cA2,hrun];have hne:w5.heap.size≠r:=fun e=>by omega
 refine n7 [0,1,5,7,10,54] (σ:=List Nat×Value) (fun s f w'=>f 6=s.2∧RgI w' w5.heap.size r es clock s.1∧o6 w5 w'∧A8 (d7 w5) w' 97 s.2 ((s.1.map (bp8 kv)).flatMap (ai7 (p6 p) (i:Int)))∧(∀b,A3 s.2 b→b≠w5.heap.size)) (fun s=>es.size-s.1.length) ([],.slice none 0 0) (by decide +kernel) ?_ ?_
 ·simp only[p7,simprocAttr];exact⟨e6,hr0,hxa,A8.nil _ _ _,fun b hb=>absurd hb D1⟩
 rintro⟨D,vo⟩ f7 w7 hk ⟨h6,hrg7,hx57,ho7,hvo7⟩;simp only at h6 hrg7 ho7 hvo7;simp only[ev6,p7,simprocAttr]at hk;obtain⟨g0,g1,g5,g7,g10,g54,_⟩:=hk;rw[e0]at g0;rw[e1]at g1;rw[e5]at g5;rw[e7]at g7;rw[e10]at g10;have hDl:D.length≤es.size:=by
  have:=I2 (m:=List.range es.size) hrg7.dn fun j hj=>ez3.2 (hrg7.dl j hj)
  rwa [eB2]at this
 have hpre:((D.map (bp8 kv)).flatMap (ai7 (p6 p) (i:Int))).length≤824240800:=by
  have h:=aF9 (l:=D.map (bp8 kv)) (f:=ai7 (p6 p) (i:Int)) (B:=M*M) fun n _=>by
   have:=cj5 (p6 p) (i:Int) n
   rwa [hbM]at this
  rw[ew5]at h;have h1:D.length≤20200:=by omega
  have h2:M*M≤202*202:=Nat.mul_le_mul hM202 hM202;have h3:D.length*(M*M)≤20200*(202*202):=Nat.mul_le_mul h1 h2;exact ew2 h (ew2 h3 (by decide))
 rcases hrg7.next (P:=prog) hne 0 with⟨hall,hnx⟩|⟨j,e,w8,hje,hnj,hnx,hrg8,hm8,hent⟩
 ·simp only[m8,simprocAttr,g54,cd3,hnx,h6];refine y5 et2 (bV8 ho7 (by omega) fun s hs t ht h1 h2=>?_) ?_
  ·obtain⟨n,_,hs⟩:=ez5.1 hs;obtain⟨m,_,ht⟩:=ez5.1 ht;exact cj6 hplc hs ht h1 h2
  rintro u9 w9 ⟨ho9,hm9⟩;simp only[m8,simprocAttr,h6];refine n8 results47 ?_;simp only[p7,simprocAttr];have hkn:(D.map (bp8 kv)).Nodup:=by
   rw[List.Nodup,List.pairwise_map];refine List.Pairwise.imp_of_mem (fun{j q} hj hq hne e=>?_) hrg7.dn;exact hne (cx9 hknd (by have:=hrg7.dl j hj;omega) (by have:=hrg7.dl q hq;omega) e)
  have hperm:=bR7 hinj (fun a ha=>(hgr a ha).1) hkn fun n hn=>by
   have h1:=(hkeysG n).1 hn;obtain⟨q,hq,hqe⟩:=eB1.1 h1;refine ey1.2 ⟨q,hall q (by rw[ew5]at hq;omega),?_⟩;rw[←hqe,eD7,aO8 (ev4 (by simpa using hq))]
  rw[ct8 hinj (fun a ha=>(hgr a ha).1) hplc hperm]at ho9;exact⟨ho9.backN hx05,o9.ext_of (hx05.trans hx57) hm9 fun b hb=>ew2 hx05.size (C6 (ho7.free hb))⟩
 generalize hP:(D.map (bp8 kv)).flatMap (ai7 (p6 p) (i:Int))=pre at ho7 hpre;obtain⟨⟨n,v⟩,hq,hek,hev⟩:∃q:A4×Value,kv[j]?=some q∧e.key=o7 q.1∧e.val=q.2:=by
  have h1:=ex3 (fun l=>l[j]?) hkv;simp only[ez2,eH2,hje,eC0]at h1;obtain⟨q,h2,h3⟩:=Option.map_eq_some_iff.1 h1.symm;exact⟨q,h2,(ex3 Prod.fst h3).symm,(ex3 Prod.snd h3).symm⟩
 simp only at hek hev;have hkey:bp8 kv j=n:=aO8 hq;obtain⟨hov,_⟩:=hG5.row n v (bH7 hknd (ex5 hq));have hent':=hent w8 (o9.refl _);rw[hek,hev]at hent' hnx;have hx58:o6 w5 w8:=o9.ext_of hx57 hm8 fun b hb=>by subst hb;exact ex0 _
 have ho8:=ho7.mod hm8 fun b hb h=>hvo7 b hb h;have hvat5:R (d7 w5) v (((p6 p).givers (i:Int) n).map fun(a:Nat)=>(a:Int)):=hov.rw_ (b7 (hG.ext.trans hx35));have hvat8:R (d7 w8) v (((p6 p).givers (i:Int) n).map fun(a:Nat)=>(a:Int)):=z7.mono (b7 hx58) hvat5;have hvp8:=z7.mono (b7 hx58) hvp5;have hDj:D.length+1≤es.size:=by
  have:=I2 (m:=List.range es.size) hrg8.dn fun q hq=>ez3.2 (hrg8.dl q hq)
  rwa [eB2,ev7,ey6]at this
 simp only[m8,simprocAttr,g54,cd3,cA1,hnx,hent',g0,g1,g7];refine y5 et1 (ci0 a p i vp v ((p6 p).givers (i:Int) n) w8 (ha.mono (b7 (hx05.trans hx58))) hr hw hi hvp8 hvat8 (aO4 _ _ _) (fun A hA=>by have:=ab4 _ _ _ A hA;rw[hbM]at this;rw[hM];exact Int.ofNat_lt.2 this)) ?_;rintro vs w9 ⟨⟨sol,hsol,hsl,hrow⟩,hx9⟩;rw[hM]at hsl;simp only[hM]at hrow;have hsl':sol.length=M:=by omega
 have hrow':∀c:Nat,c<M→C2 sol c=(ai8 (p6 p) (i:Int) n c).map fun(f:Nat)=>(f:Int):=fun c hc=>by
  obtain⟨g,h1,h2⟩:=hrow c (Int.ofNat_lt.2 hc);have e:(List.range ((p6 p).givers (i:Int) n).length).filter g=ai8 (p6 p) (i:Int) n c:=by
   unfold ai8;refine List.filter_congr fun f hf=>?_;have hf':=ez3.1 hf;have h3:=h2 f _ (ev4 hf');have h4:((p6 p).givers (i:Int) n).getD f 0=((p6 p).givers (i:Int) n)[f]:=by rw[List.getD,ev4 hf'];rfl
   rw[h4,eI4];exact h3
  rw[h1,e]
 have hSs:=hsol.isS;have hns:=hsol.vlen;rw[hsl']at hns;have ho9:=ho8.ext hx9;have hrg9:=hrg8.mod hx9 (fun h=>h) (fun h=>h);have hitl:w5.heap.size<w9.heap.size:=by
  obtain⟨_,_,h⟩:=hrg9.cur;exact(ew1.1 h).1
 simp only[m8,n9,simprocAttr,hSs,hns];refine n7 [0,1,5,7,10,12,13,54,64,65] (σ:=Nat×Value) (fun s f w'=>f 66 = .int .i64 s.1∧f 6=s.2∧s.1≤M∧A8 (d7 w5) w' 97 s.2 (pre++(List.range s.1).flatMap (ay4 (p6 p) (i:Int) n))∧o9 (fun b=>w5.heap.size≤b∧b≠w5.heap.size∧(b<w8.heap.size∨w9.heap.size≤b)) w9 w'∧(∀b,A3 s.2 b→w5.heap.size≤b∧b≠w5.heap.size∧(b<w8.heap.size∨w9.heap.size≤b))) (fun s=>M-s.1) (0,vo) (by decide +kernel) ?_ ?_
 ·simp only[p7,simprocAttr];exact⟨by first|rfl|trivial,h6,ew6 _,by rw[List.range_zero,List.flatMap_nil,ey7];exact ho9,o9.refl _,fun b hb=>⟨C6 (ho8.free hb),hvo7 b hb,.inl (ho8.lt hb)⟩⟩
 rintro⟨c,v3⟩ f9 w10 hk ⟨h66,h6c,hcl,ho10,hm10,hvo10⟩;simp only at h66 h6c hcl ho10 hvo10;simp only[ev6,p7,simprocAttr]at hk;obtain⟨k0,k1,k5,k7,k10,k12,k13,k54,k64,k65,_⟩:=hk;rw[g0]at k0;rw[g1]at k1;rw[g5]at k5;rw[g7]at k7;rw[g10]at k10;rw[g54]at k54;simp only[m8,n9,simprocAttr,h66,k65];refine i5 (fun hc3=>?_) (fun hc3=>?_);rotate_left
 ·have hge:c=M:=by simp at hc3;omega
  simp only[m8,simprocAttr];have hrg10:=hrg9.mod hm10 (fun h=>h.2.1 rfl) (fun h=>by have:=h.1;omega);have hx510:=o9.ext_of (hx58.trans hx9) hm10 fun b hb=>hb.1;refine⟨(D++[j],v3),by simp only[ev7,ey6];omega,h6c,hrg10,hx510,?_,fun b hb=>(hvo10 b hb).2.1⟩;simp only[];rw[ey8,eI6,hP,eA3,List.map_nil,hkey,eF6,List.flatMap_nil,ey7];have:ai7 (p6 p) (i:Int) n=(List.range c).flatMap (ay4 (p6 p) (i:Int) n):=by unfold ai7;rw[hbM,hge]
  rw[this];exact ho10
 have hlt3:c<M:=by simpa using hc3
 obtain⟨ur,hur,hcr⟩:=R.row hsol (k:=c) (cB7 (by omega));rw[hrow' c hlt3]at hur;have hN9:=hm10.weaken (N:=fun b=>b<w8.heap.size) fun b hb h=>by rcases h.2.2 with h|h<;>omega
 have hinr:=hsol.inS (k:=c) (by omega);have hldr:=G5 (P:=prog) (t:=112) hcr (C9 hN9) P5;have hSr:=hur.isS;have hnr:=hur.vlen;rw[ew5]at hnr;obtain⟨ut,hut,hct⟩:=R.row hvt (cm9 (T:=fun c=>(p6 p).takes (i:Int) (c:Int)) hlt3);have hint:=hvt.inS (k:=c) (by rw[aV0];exact hlt3);have hp3:(pre++(List.range c).flatMap (ay4 (p6 p) (i:Int) n)).length≤824240800+202*202:=by
  rw[ev7];have h:=bg6 (p6 p) (i:Int) n c;rw[hbM]at h;have h2:c*M≤202*202:=Nat.mul_le_mul (by omega) hM202;exact Nat.add_le_add hpre (ew2 h h2)
 have hfll:=bt2 (p6 p) (i:Int) n c;rw[hbM]at hfll;have hfC:ay4 (p6 p) (i:Int) n c=(ai8 (p6 p) (i:Int) n c).flatMap (X8 (p6 p) (i:Int) n c):=rfl;have hflt:∀f∈ai8 (p6 p) (i:Int) n c,f<((p6 p).givers (i:Int) n).length:=fun f hf=>by
  unfold ai8 at hf;exact ez3.1 (ey5.1 hf).1
 generalize ai8 (p6 p) (i:Int) n c=fl at hur hnr hfll hfC hflt;generalize hP3:pre++(List.range c).flatMap (ay4 (p6 p) (i:Int) n)=pre3 at ho10 hp3;simp only[m8,n9,y0,simprocAttr,h66,k64,hinr,hldr,hSr,hnr];refine n7 [0,1,5,7,10,12,13,14,54,64,65,66,71,72] (σ:=Nat×Value) (fun s f w'=>f 73 = .int .i64 s.1∧f 6=s.2∧s.1≤fl.length∧A8 (d7 w5) w' 97 s.2 (pre3++(fl.take s.1).flatMap (X8 (p6 p) (i:Int) n c))∧o9 (fun b=>w5.heap.size≤b∧b≠w5.heap.size∧(b<w8.heap.size∨w9.heap.size≤b)) w9 w'∧(∀b,A3 s.2 b→w5.heap.size≤b∧b≠w5.heap.size∧(b<w8.heap.size∨w9.heap.size≤b))) (fun s=>fl.length-s.1) (0,v3) (by decide +kernel) ?_ ?_
 ·simp only[p7,simprocAttr];exact⟨by first|rfl|trivial,h6c,ew6 _,by rw[eH0,List.flatMap_nil,ey7];exact ho10,hm10,hvo10⟩
 rintro⟨q,v4⟩ f11 w11 hk ⟨h73,h6q,hql,ho11,hm11,hvo11⟩;simp only at h73 h6q hql ho11 hvo11;simp only[ev6,p7,simprocAttr]at hk;obtain⟨l0,l1,l5,l7,l10,l12,l13,l14,l54,l64,l65,l66,l71,l72,_⟩:=hk;rw[k5]at l5;rw[k10]at l10;rw[k12]at l12;rw[k13]at l13;rw[h66]at l66;simp only[m8,n9,simprocAttr,h73,l72];refine i5 (fun hc4=>?_) (fun hc4=>?_);rotate_left
 ·have hge:q=fl.length:=by simp at hc4;omega
  rw[hge,ew7]at ho11;simp only[m8,n9,simprocAttr,l66];refine⟨(c+1,v4),by simp only[];omega,by simp only[];rw[B1 c (by omega)],h6q,by simp only[];omega,?_,hm11,hvo11⟩;simp only[];rw[eG4,eI6,←ey3,hP3,eF6,List.flatMap_nil,ey7,hfC];exact ho11
 have hltq:q<fl.length:=by simpa using hc4
 have hx511:o6 w5 w11:=o9.ext_of (hx58.trans hx9) hm11 fun b hb=>hb.1;have hN11:=hm11.weaken (N:=fun b=>b<w8.heap.size) fun b hb h=>by rcases h.2.2 with h|h<;>omega
 have hur11:R (d7 w11) ur (fl.map fun(f:Nat)=>(f:Int)):=z7.mono (C9 hN11) hur;have hinq:=hur11.inS (k:=q) (by rw[ew5];exact hltq);have hldq:=aI4 hur11 (i4 _) (k:=q) (by rw[ew5];exact hltq);rw[eD7]at hldq;have hldt:=G5 (P:=prog) (t:=22) hct (b7 hx511) M3;have hfg:=hflt _ (ew4 hltq);have htq:=J1 (X8 (p6 p) (i:Int) n c) fl hltq;have hp4:(pre3++(fl.take q).flatMap (X8 (p6 p) (i:Int) n c)).length≤824240800+202*202+202:=by
  rw[ev7];have h:=aF9 (l:=fl.take q) (f:=X8 (p6 p) (i:Int) n c) (B:=1) fun f _=>bg7 _ _ _ _ f;rw[ew9,eF2]at h;omega
 generalize fl[q]=f at hldq hfg htq;have hvat11:R (d7 w11) v (((p6 p).givers (i:Int) n).map fun(a:Nat)=>(a:Int)):=z7.mono (b7 hx511) hvat5;have hinv:=hvat11.inS (k:=f) (by rw[ew5];exact hfg);have hldv:=aI4 hvat11 (i4 _) (k:=f) (by rw[ew5];exact hfg);rw[eD7]at hldv;have hgd:((p6 p).givers (i:Int) n).getD f 0=((p6 p).givers (i:Int) n)[f]:=by rw[List.getD,ev4 hfg];rfl
 have hAM:=ab4 _ _ _ _ (ew4 hfg);rw[hbM]at hAM;have hfo:X8 (p6 p) (i:Int) n c f=if((p6 p).takes (i:Int) (c:Int)).contains n then[⟨(D5 (b9 p) i).place ((((p6 p).givers (i:Int) n)[f]:Nat):Int),(D5 (b9 p) i).place (c:Int),n⟩]else[]:=by
  unfold X8;rw[hgd,hbw]
 generalize((p6 p).givers (i:Int) n)[f]=A at hldv hAM hfo;have htr:=(htk c hlt3).1;have htl:((p6 p).takes (i:Int) (c:Int)).length≤1000000000:=ew2 (htk c hlt3).2 (by decide);simp only[m8,n9,y0,simprocAttr,h73,l71,hinq,hldq,l10,l14,hint,hldt,l12];refine D2 bI9 (ab3 ut _ n w11 (z7.mono (b7 hx511) hut) htl htr) ?_;clear htl htr;rcases ev5 (((p6 p).takes (i:Int) (c:Int)).contains n)with h|h;rotate_left
 ·rw[h,if_neg (by simp)]at hfo;simp only[m8,n9,simprocAttr,h,h73];refine⟨(q+1,v4),by simp only[];omega,by simp only[];rw[B1 q (by omega)],h6q,by simp only[];omega,?_,hm11,hvo11⟩;simp only[];rw[htq,hfo,ey7];exact ho11
 rw[h,if_pos rfl]at hfo;simp only[m8,n9,y0,simprocAttr,h,h6q,l5,l13,hinv,hldv];refine y5 bh7 (aa8 aw _ p i x y (A:Int) w11 (haw.mono (b7 (hx05.trans hx511))) hwy.toWyOk ⟨by omega,by omega⟩) ?_;rintro _ w12 ⟨rfl,hx12⟩;simp only[m8,simprocAttr,l5,l14];refine y5 bh7 (aa8 aw _ p i x y (c:Int) w12 (haw.mono (b7 (hx05.trans (hx511.trans hx12)))) hwy.toWyOk ⟨by omega,by omega⟩) ?_;rintro _ w13 ⟨rfl,hx13⟩;have hx113:=hx12.trans hx13;generalize(D5 (b9 p) i).place (A:Int)=s1 at hfo;generalize(D5 (b9 p) i).place (c:Int)=d1 at hfo;obtain⟨p1,v5,w14,p2,p3,p4,p5⟩:=push (P:=prog) (t:=95) (e:=95) dJ2 rfl (ho11.ext hx113) (x:=.agg (A0.cells (⟨s1,d1,n⟩:Fw)).toArray) (y:=⟨s1,d1,n⟩) (bG2 _) (by omega) (by omega) (b7 (hx511.trans hx113));simp only[Value.cells]at p1 p2;have h1113:=hm11.size;have hs113:=hx113.size;simp only[m8,n9,simprocAttr,h73,l12,cq6,p1,p2];refine⟨(q+1,v5),by simp only[];omega,by simp only[];rw[B1 q (by omega)],by trivial,by simp only[];omega,?_,(hm11.trans (o9.up hx113)).trans (p4.weaken fun b _ hb=>hvo11 b hb),fun b hb=>?_⟩
 ·simp only[];rw[htq,hfo,←ey3];exact p3
 ·rcases p5 b hb with h|h
  ·exact hvo11 b h
  ·exact⟨by omega,by omega,.inr (by omega)⟩
theorem aE9(a:Addr)(p:Pg)(i:Nat)(w:World)(ha:At (d7 w) a (p6 p))(hr:E2 p)(hw:D0 p≤1000000)(hi:i<p.procs.length):
  Calls prog 42 #[.pointer (some a),.int .i64 i] w fun e w'=>∃u,e = .returned u∧(∃ui uo,u = .tuple #[ui,uo]∧A8 (d7 w) w' 9 ui ((p6 p).slotsIn (i:Int))∧A8 (d7 w) w' 9 uo ((p6 p).slotsOut (i:Int))∧(∀b,A3 ui b→¬A3 uo b)∧o6 w w'):=by
 refine d9 (args:=[.pointer (some a),.int .i64 i]) hm func42 rfl (by kernel_rfl) (by show 2≤_;decide +kernel) ?_;have hFi:(p6 p).slotsIn (i:Int)=S5 (F5 (Y0 p) (i:Int)++p.procs[i].params.map (·.name)):=by
  unfold Bk.slotsIn;rw[S6 hi];rfl
 have hFo:(p6 p).slotsOut (i:Int)=S5 (F5 (H6 p) (i:Int)++[M2]):=rfl;obtain⟨sh,vw,vd,_,vi,vo,has,hvw,hvd,_,hvi,hvo,ldb,sdb⟩:=ha.book rfl;obtain⟨_,_,_,_,_,_,hpg,_,_⟩:=has.sh;rw[I5]at hpg;obtain⟨vg,vp,hvg,hvp,ldp,sdp⟩:=hpg.pg;have lb:=ldb w (i4 _);have hhw:∀w',o6 w w'→B3 (d7 w) (d7 w'):=fun w' hx=>b7 hx;obtain⟨hrow,hrise,hfew⟩:=(aG3 hr hw).row hi;generalize F5 (Y0 p) (i:Int)=row at hrow hrise hfew hFi;obtain⟨ui,hui,hci⟩:=R.row hvi (show(p6 p).ins[i]?=some row from hrow);have hini:=hvi.inS (k:=i) (show i<(Y0 p).length from(ev9.1 hrow).1);have hli:=G5 (P:=prog) (t:=22) hci (i4 _) M3;obtain⟨hrow2,hrise2,hfew2⟩:=(at1 hr.may).row hi;generalize F5 (H6 p) (i:Int)=row2 at hrow2 hrise2 hfew2 hFo;obtain⟨uo,huo,hco⟩:=R.row hvo (show(p6 p).outs[i]?=some row2 from hrow2);have hino:=hvo.inS (k:=i) (show i<(H6 p).length from(ev9.1 hrow2).1);simp only[m8,n9,y0,I3,J0.val,simprocAttr,lb,hini,hli];refine y5 cb8 (am8 ui row w hui (by omega)) ?_;rintro u2 w2 ⟨ho2,hx2⟩;have lb2:=ldb w2 (hhw w2 hx2);have lp2:=ldp w2 (hhw w2 hx2);have hatp:=hvp.at_ (i:=i) (x:=p.procs[i]) (ev4 hi);have hinp:=hvp.inS (k:=i) hi;have hz5:z7.sz Pr=5:=rfl;rw[hz5]at hatp;obtain⟨vpa,_,_,_,hvpa,_,_,_,ldr,_⟩:=hatp.pr;have lr2:=ldr w2 (hhw w2 hx2);have hpl:=O7 hr.may hi;generalize p.procs[i].params=pas at hvpa hpl hFi;have hSp:=hvpa.isS;have hnp:=hvpa.vlen;simp only[m8,n9,y0,I3,J0.val,simprocAttr,lb2,lp2,hinp,lr2,hSp,hnp];refine n7 [0,1,27,28] (σ:=Nat×Value) (fun s f w'=>f 29 = .int .i64 s.1∧f 4=s.2∧s.1≤pas.length∧A8 (d7 w) w' 9 s.2 (row++(pas.take s.1).map (·.name))∧o6 w w') (fun s=>pas.length-s.1) (0,u2) (by decide +kernel) ?_ ?_
 ·simp only[p7,simprocAttr];exact⟨by first|rfl|trivial,trivial,ew6 _,by simpa using ho2,hx2⟩
 rintro⟨j,u⟩ f w3 hk ⟨h29,h4,hjl,ho,hx3⟩;simp only at h29 h4 hjl ho;simp only[ev6,p7,simprocAttr]at hk;obtain⟨e0,e1,e27,e28,_⟩:=hk;simp only[m8,n9,y0,I3,J0.val,simprocAttr,h29,e27,e28];refine i5 (fun hc=>?_) (fun hc=>?_)
 ·have hlt:j<pas.length:=by simpa using hc
  have hin:=hvpa.inS hlt;obtain⟨sv,hsv,hld⟩:=G1 (P:=prog) (t:=68) hvpa (hhw w3 hx3) (ev4 hlt) bb3 bb8 bb6 ap1;rw[ap1]at hld;have htk:=aD1 (fun q:Pa=>q.name) pas hlt;generalize pas[j]=pa at hsv htk;obtain⟨d,wz,w4,hal,hst,hx4,hat⟩:=aH6 (hsv.mono (hhw w3 hx3)) (i4 _);obtain⟨ld4,_⟩:=hat.pa;have l4:=ld4 w4 (i4 _);obtain⟨p1,u5,w5,p2,p3,p4,p5⟩:=at5 (e:=22) (ho.ext hx4) pa.name (by rw[ev7,ew5,ew9];omega) (b7 (hx3.trans hx4));simp only[m8,n9,y0,I3,J0.val,simprocAttr,h29,h4,e27,e28,hin,hld,hal,hst,l4,p1,p2];refine⟨(j+1,u5),by simp only[];omega,by simp only[];rw[B1 j (by omega)],by trivial,by simp only[];omega,?_,(ho.ext hx4).ext2 (hx3.trans hx4) p4⟩;simp only[];rw[htk,←ey3];exact p3
 have hge:j=pas.length:=by simp at hc;omega
 subst hge;rw[ew7]at ho;have lb3:=ldb w3 (hhw w3 hx3);have hlo:=G5 (P:=prog) (t:=22) hco (hhw w3 hx3) M3;simp only[m8,n9,y0,I3,J0.val,simprocAttr,e0,e1,lb3,hino,hlo];refine y5 cb8 (am8 uo row2 w3 (z7.mono (hhw w3 hx3) huo) (by omega)) ?_;rintro u4 w4 ⟨ho4,hx4⟩;obtain⟨p1,u5,w5,p2,p3,p4,p5⟩:=at5 (e:=22) ho4 M2 (by omega) (b7 hx4);have p1':(Instr.buildSlice 22 1 #[(0,.string ⟨#[36,114,101,116]⟩)]).run prog w4=_:=p1;have hap4:∀b,A3 u b→¬A3 u4 b:=fun b h1 h2=>by
  have:=ho.lt h1;have:=C6 (ho4.free h2);omega
 have hap5:∀b,A3 u b→¬A3 u5 b:=fun b h1 h2=>by
  have:=ho.lt h1;have:=C6 (p3.free h2);omega
 have hoi5:=(ho.ext hx4).mod p4 hap4;have hx5:o6 w w5:=hx3.trans (ho4.ext2 hx4 p4);simp only[m8,n9,y0,I3,J0.val,simprocAttr,p1',p2,h4];refine y5 bI6 (al7 hoi5 (by rw[ev7,ew5];omega)) ?_;rintro u6 w6 ⟨ho6,hm6⟩;have hoo6:=(p3.mod hm6 fun b h1 h2=>hap5 b h2 h1).back hx3;simp only[m8,n9,y0,I3,J0.val,simprocAttr];refine y5 bI6 (al7 hoo6 (by rw[ev7,ey6];omega)) ?_;rintro u7 w7 ⟨ho7,hm7⟩;simp only[m8,n9,y0,I3,J0.val,simprocAttr];refine ae5 results42 ?_;simp only[p7,simprocAttr];rw[hFi,hFo];exact⟨u,u5,by rw[h4],ho6.mod hm7 hap5,ho7,hap5,hoo6.ext2 (hoi5.ext2 hx5 hm6) hm7⟩
theorem bU1(n:A4)(w:World):Calls prog 103 #[o7 n] w fun e w'=>∃u,e = .returned u∧(u = .bool (decide (n=M2))∧w'=w):=by
 refine d9 (args:=[o7 n]) hm func103 rfl (by kernel_rfl) (by show 1≤_;decide +kernel) ?_;have he:=fun(P:Program) (t:TypeId)=>bZ3 (P:=P) (t:=t) (a:=n) (b:=M2);have hg:o7 M2 = .string ⟨#[36,114,101,116]⟩:=rfl;simp only[hg]at he;simp only[m8,n9,simprocAttr,he];refine n8 results103 ?_;simp only[p7,simprocAttr];exact⟨by trivial,by trivial⟩
theorem cr1(q:A4)(k d:Int)(n:A4):C1 prog 36 [(0,o7 q),(1,.int .i64 k),(2,.int .i64 d),(3,o7 n)]=some (.agg (A0.cells (⟨q,k,d,n⟩:Vx)).toArray):=by
 simp[C1,bO2,J6,Instr.fill,Value.cells,o7];rfl
def H2(a:Addr)(i:Int)(q:A4)(c1 c2 c3 c4 vv ve:Value):Array Value:=#[.pointer (some a),.int .i64 i,o7 q,c1,c2,c3,c4,vv,ve]
theorem H9(gb:Nat)(T:TypeId)(cs0:Array Value)(q:A4)(k d:Int)(n:A4)(w:World)(hb:w.heap[gb]?=some (.cells cs0 T (0,0)))(hq:cs0[2]?=some (o7 q)):
  Calls prog 55 #[.pointer (some ⟨gb,0,none⟩),.int .i64 k,.int .i64 d,o7 n] w fun e w'=>∃u,e = .returned u∧(u = .agg (A0.cells (⟨q,k,d,n⟩:Vx)).toArray∧o6 w w'):=by
 refine d9 (args:=[.pointer (some ⟨gb,0,none⟩),.int .i64 k,.int .i64 d,o7 n]) hm func55 rfl (by kernel_rfl) (by show 4≤_;decide +kernel) ?_;have hfc:A0.cells (⟨q,k,d,n⟩:Vx)=[o7 q,.int .i64 k,.int .i64 d,o7 n]:=rfl;obtain⟨h1,h2⟩:=aU2 (P:=prog) (w:=w) (T:=36) bw8 rfl (cs:=#[o7 q,.int .i64 k,.int .i64 d,o7 n]) (by rw[V8];rfl) (by simp[Value.oneCell',o7]);have hbv:=cr1 q k d n;rw[hfc]at hbv ⊢;have hb1:=fun o=>((o6.alloc w o).block gb (ew1.1 hb).1 id).trans hb;have hl:=fun o=>F0 (P:=prog) (t:=9) (i:=2) (u:=o7 q) (hb1 o) hq S1;have hlda:=ac4 (P:=prog) (T:=36) (ez9 w (.cells #[o7 q,.int .i64 k,.int .i64 d,o7 n] 36)) az4 az7 az5 (by rw[V8];rfl);simp only[m8,n9,simprocAttr,h1,hl,hbv,h2];refine L8 results55 (ad:=⟨w.heap.size,0,none⟩) (by simp only[p7,simprocAttr]) hlda ?_;exact⟨rfl,o6.alloc _ _⟩
theorem aj0:ag2 prog 55=true:=by kernel_rfl
theorem BM.rebase{α β:Type}[z7 α][z7 β]{H H':Hp}{w0 wz w:World}{Z:Nat→Prop}{gb:Nat}{TB TX TY:TypeId}{cells:Value→Array Value}{vx vy:Value}{xs:List α}{ys:List β}(s:BM H w0 wz w Z gb TB TX TY cells vx vy xs ys)(h:B3 H' (B4 w (nB gb vx vy Z))):BM H' w0 wz w Z gb TB TX TY cells vx vy xs ys:=
 ⟨s.ext,s.ge,s.cb,s.ox,s.oy,s.dx,s.dy,s.dz,s.zk,s.sz,h⟩
abbrev PV(H:Hp)(w0 w:World)(gb:Nat)(a:Addr)(i:Int)(q:A4)(c1 c2 c3 c4 vx:Value)(xs:List Vx):Prop:=
 BM (α:=Vx) (β:=Int) H w0 w0 w (fun _=>False) gb 116 36 3 (fun v=>H2 a i q c1 c2 c3 c4 v (.slice none 0 0)) vx (.slice none 0 0) xs []
abbrev PE(H:Hp)(w0 w:World)(gb:Nat)(a:Addr)(i:Int)(q:A4)(c1 c2 c3 c4 vx:Value)(xs:List Eg):Prop:=
 BM (α:=Eg) (β:=Int) H w0 w0 w (fun _=>False) gb 116 60 3 (fun v=>H2 a i q c1 c2 c3 c4 (.slice none 0 0) v) vx (.slice none 0 0) xs []
abbrev nP(gb:Nat)(vx:Value):Nat→Prop:=nB gb vx (.slice none 0 0) fun _=>False
theorem cX7:∃inf,prog.info? 30=some inf∧inf.size=1:=aR6 dX9 da1
theorem dG0:∃inf,prog.info? 32=some inf∧inf.size=1:=aR6 dY0 da2
theorem aG9(H:Hp)(gb:Nat)(a:Addr)(i:Int)(q:A4)(c1 c2 c3 c4 vx:Value)(xs:List Vx)(k d:Int)(u:Value)(ns:List A4)(w0 w:World)(s:PV H w0 w gb a i q c1 c2 c3 c4 vx xs)(hu:R (B4 w (nP gb vx)) u ns)(hl:xs.length+ns.length≤1000000):
  Calls prog 56 #[.pointer (some ⟨gb,0,none⟩),.int .i64 k,.int .i64 d,u] w fun e w'=>∃r,e = .returned r∧(∃vx',PV (B4 w (nP gb vx)) w0 w' gb a i q c1 c2 c3 c4 vx' (xs++ns.map fun n=>⟨q,k,d,n⟩)):=by
 refine d9 (args:=[.pointer (some ⟨gb,0,none⟩),.int .i64 k,.int .i64 d,u]) hm func56 rfl (by kernel_rfl) (by show 4≤_;decide +kernel) ?_;have hS:=hu.isS;have hn:=hu.vlen;obtain⟨il,hil,hil1⟩:=cX7;simp only[m8,n9,simprocAttr,hS,hn];refine n7 [0,1,2,10,11] (σ:=Nat×Value) (fun t f w'=>f 12 = .int .i64 t.1∧t.1≤ns.length∧PV (B4 w (nP gb vx)) w0 w' gb a i q c1 c2 c3 c4 t.2 (xs++(ns.take t.1).map fun n=>⟨q,k,d,n⟩)) (fun t=>ns.length-t.1) (0,vx) (by decide +kernel) ?_ ?_
 ·simp only[p7,simprocAttr];exact⟨by trivial,ew6 _,by simpa using s.rebase (i4 _)⟩
 clear s;rintro⟨j,v⟩ f w1 hk ⟨h12,hjl,s⟩;simp only at h12 hjl s;simp only[ev6,p7,simprocAttr]at hk;obtain⟨e0,e1,e2,e10,e11,_⟩:=hk;simp only[m8,n9,simprocAttr,h12,e11];refine i5 (fun hc=>?_) (fun hc=>?_);rotate_left
 ·have hge:j=ns.length:=by simp at hc;omega
  subst hge;rw[ew7]at s;simp only[m8,simprocAttr];refine cB5 results56 ?_;exact⟨v,s⟩
 have hlt:j<ns.length:=by simpa using hc
 have hin:=hu.inS hlt;have hld:=ldS hu s.hb hlt;have htk:=aD1 (fun n:A4=>(⟨q,k,d,n⟩:Vx)) ns hlt;have hxl:(xs++(ns.take j).map fun n=>(⟨q,k,d,n⟩:Vx)).length+1≤1000000:=by rw[ev7,ew5,ew9];omega
 generalize ns[j]=n at hld htk;generalize hys:xs++(ns.take j).map (fun n=>(⟨q,k,d,n⟩:Vx))=ys at s hxl;have s2:=s.more (o6.drew w1);have hcb:∀w',o9 (A3 v) w1.drew w'→w'.heap[gb]?=some (.cells (H2 a i q c1 c2 c3 c4 v (.slice none 0 0)) 116 (0,0)):=fun w' hm=>(hm.block gb (ew1.1 s2.cb).1 fun h=>(s2.dx gb h).2.1 rfl).trans s2.cb;have k7:∀K f d w0',B5 prog (fun w'=>o9 (A3 v) w1.drew w') (Instr.loadAt 30 (.pointer (some ⟨gb,7,none⟩))) K f d w0'=K (A5 f d v) w0':=fun K f d w0'=>z6 (w0:=w1.drew) (o9.refl _) fun w' h=>F0 (i:=7) (u:=v) (hcb w' h) rfl bw4;simp only[m8,n9,y0,simprocAttr,h12,e10,hin,hld];refine C5 (fun w'=>o9 (A3 v) w1.drew w') 12 (B0 [0,1,2,3,4,5,6,7,8,9,10,11]) (by decide +kernel) (o9.refl _) ?_;simp only[D6,B0,m8,n9,simprocAttr,e0,e1,e2,k7];refine y5 aj0 (H9 gb _ _ q k d n w1.drew s2.cb rfl) ?_;rintro _ w3 ⟨rfl,hx3⟩;refine⟨o9.up hx3,?_⟩;have s3:=s2.more hx3;obtain⟨p1,v',w4,w5,p2,p3,s5,p4⟩:=s3.push (P:=prog) (e:=30) bl7 rfl (x:=.agg (A0.cells (⟨q,k,d,n⟩:Vx)).toArray) (y:=⟨q,k,d,n⟩) ((A0.iff_ _ _ _).2 rfl) (by omega) (by omega) (ix:=7) (by simp[H2]) (fun v v'=>by simp[H2]) hil hil1;simp only[D6,m8,n9,simprocAttr,p1,p2,G0];refine⟨(o9.up hx3).trans (o9.up (o6.alloc _ _)),(o9.up hx3).trans p4,?_⟩;simp only[m8,n9,simprocAttr,h12,p3];refine⟨(j+1,v'),by simp only[];omega,by simp only[];rw[B1 j (by omega)],by simp only[];omega,?_⟩;simp only[];rw[htk,←ey3,hys];exact s5
theorem cq5(x y:Vx)(k:Int):C1 prog 60 [(0,.agg (A0.cells x).toArray),(1,.agg (A0.cells y).toArray),(2,.int .i64 k)]=some (.agg (A0.cells (⟨x,y,k⟩:Eg)).toArray):=by
 have hx:∀x:Vx,A0.cells x=[o7 x.proc,.int .i64 x.kind,.int .i64 x.id,o7 x.slot]:=fun _=>rfl;have he:A0.cells (⟨x,y,k⟩:Eg)=[o7 x.proc,.int .i64 x.kind,.int .i64 x.id,o7 x.slot,o7 y.proc,.int .i64 y.kind,.int .i64 y.id,o7 y.slot,.int .i64 k]:=rfl;rw[hx,hx,he];simp[C1,cZ7,J6,Instr.fill,Value.cells,o7]
theorem af0(H:Hp)(gb:Nat)(a:Addr)(i:Int)(q:A4)(c1 c2 c3 c4 vx:Value)(xs:List Eg)(x y:Vx)(k:Int)(w0 w:World)(s:PE H w0 w gb a i q c1 c2 c3 c4 vx xs)(hl:xs.length≤1000000000):
  Calls prog 62 #[.pointer (some ⟨gb,0,none⟩),.agg (A0.cells x).toArray,.agg (A0.cells y).toArray,.int .i64 k] w fun e w'=>∃r,e = .returned r∧(∃vx',PE H w0 w' gb a i q c1 c2 c3 c4 vx' (xs++[⟨x,y,k⟩])):=by
 refine d9 (args:=[.pointer (some ⟨gb,0,none⟩),.agg (A0.cells x).toArray,.agg (A0.cells y).toArray,.int .i64 k]) hm func62 rfl (by kernel_rfl) (by show 4≤_;decide +kernel) ?_;obtain⟨il,hil,hil1⟩:=dG0;obtain⟨a1,w1,hb1,hx1,hat1⟩:=bZ9 (w:=w) (A3 vx) (SV.ofN (d7 w) x) fun b hb=>s.ox.lt hb;have s1:=s.more hx1;obtain⟨a2,w2,hb2,hx2,hat2⟩:=bZ9 (w:=w1) (A3 vx) (SV.ofN (d7 w1) y) fun b hb=>s1.ox.lt hb;have s3:=(s1.more hx2).more (o6.drew w2);have hcb:∀w',o9 (A3 vx) w2.drew w'→w'.heap[gb]?=some (.cells (H2 a i q c1 c2 c3 c4 (.slice none 0 0) vx) 116 (0,0)):=fun w' hm=>(hm.block gb (ew1.1 s3.cb).1 fun h=>(s3.dx gb h).2.1 rfl).trans s3.cb;have k8:∀K f d w0',B5 prog (fun w'=>o9 (A3 vx) w2.drew w') (Instr.loadAt 32 (.pointer (some ⟨gb,8,none⟩))) K f d w0'=K (A5 f d vx) w0':=fun K f d w0'=>z6 (w0:=w2.drew) (o9.refl _) fun w' h=>F0 (i:=8) (u:=vx) (hcb w' h) rfl cG0;have t1:=(J7.vx_v (SV.ofN (d7 w) x) hat1).2 (fun w'=>o9 (A3 vx) w2.drew w') w2.drew (o9.refl _) fun w' h=>C9 ((o9.up (M:=A3 vx) (hx2.trans (o6.drew w2))).trans h);have t2:=(J7.vx_v (SV.ofN (d7 w1) y) hat2).2 (fun w'=>o9 (A3 vx) w2.drew w') w2.drew (o9.refl _) fun w' h=>C9 ((o9.up (M:=A3 vx) (o6.drew w2)).trans h);have hbe:=cq5 x y k;obtain⟨p1,v',w4,w5,p2,p3,s5,p4⟩:=s3.push (P:=prog) (e:=32) cZ1 rfl (x:=.agg (A0.cells (⟨x,y,k⟩:Eg)).toArray) (y:=⟨x,y,k⟩) ((A0.iff_ _ _ _).2 rfl) (by omega) (by omega) (ix:=8) (by simp[H2]) (fun v v'=>by simp[H2]) hil hil1;simp only[m8,n9,simprocAttr,hb1,hb2];refine C5 (fun w'=>o9 (A3 vx) w2.drew w') 11 (B0 [0,1,2,3,4,5,6,7,8,9,10]) (by decide +kernel) (o9.refl _) ?_;simp only[D6,B0,m8,n9,simprocAttr,k8,t1,t2,hbe,p1,p2,G0];refine⟨o9.up (o6.alloc _ _),p4,?_⟩;simp only[m8,simprocAttr,p3];refine cB5 results62 ?_;exact⟨v',s5⟩
theorem ed8:ag2 prog 102=true:=by kernel_rfl
theorem dc2:ag2 prog 103=true:=by kernel_rfl
theorem cw9:ag2 prog 42=true:=by kernel_rfl
instance:A0 A4:=⟨fun s=>[o7 s],fun _ _ _=>eC4⟩
theorem bi0{α:Type}(p:α→Bool):∀(l:List α) (i:Nat),W1 p i l ≠ -1→∃k,W1 p i l=((i+k:Nat):Int)∧(∃x,l[k]?=some x∧p x=true)∧∀j y,j<k→l[j]?=some y→p y=false
 | [],i,h=>absurd rfl h
 | x::l,i,h=>by
  rw[W1]at h ⊢;cases hp:p x
  ·rw[hp,if_neg (by simp)]at h;rw[if_neg (by simp)];obtain⟨k,h1,⟨y,h2,h3⟩,h4⟩:=bi0 p l (i+1) h;refine⟨k+1,by rw[h1];congr 1;omega,⟨y,by simpa using h2,h3⟩,fun j z hj hz=>?_⟩;cases j with
   | zero=>
    obtain rfl:x=z:=by simpa using hz
    exact hp
   | succ j=>exact h4 j z (by omega) (by simpa using hz)
  ·rw[if_pos rfl];exact⟨0,by simp,⟨x,rfl,hp⟩,fun j y hj=>by omega⟩
theorem aB8{α:Type}(p:α→Bool):∀(l:List α),(∀(j:Nat) y,l[j]?=some y→p y=true)→l.filter p=l
 | [],_=>rfl
 | x::l,h=>by
  rw[List.filter_cons,if_pos (h 0 x rfl),aB8 p l fun j y hj=>h (j+1) y (by simpa using hj)]
theorem dG1:∃inf,prog.info? 9=some inf∧inf.size=1:=aR6 dY2 dV8
theorem cs8{h:Hp}{w:World}{v:Value}{xs:List A4}(ho:A8 h w 9 v xs)(hl:xs.length≤1000000)(hh:B3 h (d7 w)):
  Calls prog 102 #[v,.func (.func 103) #[] #[]] w fun e w'=>∃u,e = .returned u∧(A8 h w' 9 u (xs.filter fun n=>!decide (n=M2))∧o9 (A3 v) w w'∧∀b,A3 u b→A3 v b):=by
 refine d9 (args:=[v,.func (.func 103) #[] #[]]) hm func102 rfl (by kernel_rfl) (by show 2≤_;decide +kernel) ?_;have hS:=ho.isS;have hn:=ho.vlen;have hvc:=ho.vcap;obtain⟨il,hil,hil1⟩:=dG1;have hpred:∀(x:A4) (w':World),Calls prog 103 ([o7 x]++(#[]:Array Value).toList).toArray w' fun e w''=>∃u,e = .returned u∧(u = .bool (decide (x=M2))∧o6 w' w''):=fun x w'=>(bU1 x w').mono fun e w'' ⟨u,h1,h2,h3⟩=>⟨u,h1,h2,by rw[h3];exact o9.refl _⟩;generalize hP:(fun n:A4=>decide (n=M2))=pred at hpred;have hPn:∀n:A4,decide (n=M2)=pred n:=fun n=>by rw[←hP]
 simp only[hPn]at hpred ⊢;simp only[m8,n9,simprocAttr];refine B8 dc9 (aA3 pred 103 #[] v xs w dc2 (ho.rw_ hh) (by omega) fun x w' _ _=>hpred x w') (fun w1 hx1=>?_);rcases ev5 (decide (W1 pred 0 xs = -1))with hq|hq
 ·have e:=ev8 hq;simp only[m8,n9,simprocAttr,hq];refine n8 results102 ?_;simp only[p7,simprocAttr];have hno:xs.any pred=false:=by rw[←as6 pred xs 0,e];rfl
  rw[aB8 _ _ fun j y hj=>by
   have:=List.any_eq_false.1 hno y (ex5 hj);simpa using this]
  exact⟨ho.ext hx1,o9.up hx1,fun b hb=>hb⟩
 obtain⟨k,hk0,⟨xk,hxk,hpk⟩,hfst⟩:=bi0 pred xs 0 (ew0 hq);rw[ez0]at hk0;generalize W1 pred 0 xs=z at hq hk0 ⊢;obtain⟨hkl,rfl⟩:=ev9.1 hxk;have hk1:IntKind.i64.wrap (z+1)=((k+1:Nat):Int):=by rw[hk0];exact B1 k (by omega)
 have htk0:(xs.take (k+1)).filter (fun n=>!pred n)=xs.take k:=by
  rw[ah0 _ xs hkl,hpk,if_neg (by simp),ey7];refine aB8 _ _ fun j y hj=>?_;rw[eE2]at hj;split at hj
  ·rename_i hjk;rw[hfst j y hjk hj];rfl
  ·cases hj
 simp only[m8,n9,simprocAttr,hq,hk1];refine n7 [0,1] (σ:=Nat×Nat×List A4) (fun s f w'=>f 6 = .int .i64 s.1∧f 5 = .int .i64 s.2.1∧s.1≤xs.length∧s.2.1<s.1∧s.2.2.length=xs.length∧A8 h w' 9 v s.2.2∧(∀m,s.1≤m→s.2.2[m]?=xs[m]?)∧s.2.2.take s.2.1=(xs.take s.1).filter (fun n=>!pred n)∧o9 (A3 v) w w') (fun s=>xs.length-s.1) (k+1,k,xs) (by decide +kernel) ?_ ?_
 ·simp only[p7,simprocAttr];exact⟨by trivial,by rw[hk0],by omega,by omega,by trivial,ho.ext hx1,fun _ _=>by trivial,htk0.symm,o9.up hx1⟩
 rintro⟨j,c,ys⟩ f w2 hk ⟨h6,h5,hjl,hcj,hyl,hoy,hsuf,hpre,hm2⟩;simp only at h6 h5 hjl hcj hyl hoy hsuf hpre;simp only[ev6,p7,simprocAttr]at hk;obtain⟨e0,e1,_⟩:=hk;simp only[m8,n9,simprocAttr,h6,e0,hS,hn];refine i5 (fun hc=>?_) (fun hc=>?_)
 ·have hlt:j<xs.length:=by simpa using hc
  have hyj:ys[j]?=some xs[j]:=by rw[hsuf j (ex0 _),ev4 hlt]
  have hin:=hoy.inS (k:=j) (by omega);have hld:(Instr.loadAt 9 (.pointer (some (H5 v j)))).run prog w2 = .ok (o7 xs[j]) w2:=D4 hoy hyj S1;have htk:=ah0 (fun n=>!pred n) xs hlt;generalize xs[j]=n at hld hyj htk;simp only[m8,n9,y0,simprocAttr,h6,e0,e1,hin,hld,eG5];refine B8 dc2 (hpred n w2) (fun w3 hx3=>?_);have hm3:o9 (A3 v) w w3:=hm2.trans (o9.up hx3);rcases ev5 (pred n)with hp|hp
  ·rw[hp,if_neg (by simp),ey7]at htk;simp only[m8,n9,simprocAttr,hp,h6];refine⟨(j+1,c,ys),by simp only[];omega,by simp only[];rw[B1 j (by omega)],h5,by simp only[];omega,by simp only[];omega,hyl,hoy.ext hx3,fun m hm=>hsuf m (by simp only at hm;omega),?_,hm3⟩;simp only[];rw[hpre,htk]
  ·rw[hp,if_pos (by simp)]at htk;have hin2:=hoy.inS (k:=c) (by omega);obtain⟨w4,q1,q2,q3,_⟩:=E0 (P:=prog) (t:=9) (hoy.ext hx3) rfl (k:=c) (by omega) (x:=o7 n) (y:=n) rfl rfl hil hil1;simp only[m8,n9,y0,simprocAttr,hp,h6,h5,e0,hin2,q1];refine⟨(j+1,c+1,ys.set c n),by simp only[];omega,by simp only[];rw[B1 j (by omega)],by simp only[];rw[B1 c (by omega)],by simp only[];omega,by simp only[];omega,by simp only[eC7];exact hyl,q2,fun m hm=>?_,?_,hm3.trans q3⟩
   ·simp only at hm ⊢;rw[eD6 (by omega)];exact hsuf m (by omega)
   ·simp only[];have hcs:c<(ys.set c n).length:=by rw[eC7];omega
    rw[ew3 hcs,List.getElem_set_self,List.take_set_of_le (ex0 _),hpre,htk]
 ·have hge:j=xs.length:=by simp at hc;omega
  subst hge;rw[ew7]at hpre;have c3:decide ((c:Int)≤(xs.length:Int))=true:=by simp;omega
  have c4:decide ((c:Int)≤(vcap v:Int))=true:=by simp;omega
  have c5:decide ((xs.length:Int)≤(vcap v:Int))=true:=by simp;omega
  obtain⟨w6,e6,ho6,hm6,hb6⟩:=aU7 (P:=prog) (t:=22) (ty:=0) hoy rfl dY2 rfl (by simp[Value.cells,Value.oneCell']) (i:=c) (by omega);have hz:z7.sz A4=1:=rfl;rw[hyl,hz]at e6;rw[hz]at ho6 hb6;simp only[m8,n9,I3,simprocAttr,bj4,h5,e0,hS,hn,c3,c4,c5,e6];refine n8 results102 ?_;simp only[p7,simprocAttr];exact⟨by rw[←hpre];exact ho6,hm2.trans hm6,hb6⟩
theorem cn2(gb:Nat)(T:TypeId)(cs0:Array Value)(a:Addr)(p:Pg)(vs:Value)(s:St)(c:Nat)(w:World)(hb:w.heap[gb]?=some (.cells cs0 T (0,0)))(hc0:cs0[0]?=some (.pointer (some a)))(ha:At (d7 w) a (p6 p))(hr:E2 p)(hw:D0 p≤1000000)(hv:SV (d7 w) vs s)(hc:aA0 p s c):
  Calls prog 58 #[.pointer (some ⟨gb,0,none⟩),vs] w fun e w'=>∃u,e = .returned u∧(∃ui uo,u = .tuple #[ui,uo]∧A8 (d7 w) w' 9 ui ((p6 p).slotsIn (c:Int))∧A8 (d7 w) w' 9 uo ((p6 p).callOut s)∧(∀b,A3 ui b→¬A3 uo b)∧o6 w w'):=by
 refine d9 (args:=[.pointer (some ⟨gb,0,none⟩),vs]) hm func58 rfl (by kernel_rfl) (by show 2≤_;decide +kernel) ?_;have hF:(p6 p).callOut s=if s.name=e0 then((p6 p).slotsOut (c:Int)).filter fun n=>!decide (n=M2)else(p6 p).slotsOut (c:Int):=by
  have e:(p6 p).s.pr s.proc=(c:Int):=hc.pr;unfold Bk.callOut;rw[e]
 have hfew:((p6 p).slotsOut (c:Int)).length≤1000000:=by
  have h1:(p6 p).slotsOut (c:Int)=S5 (F5 (H6 p) (c:Int)++[M2]):=rfl;have:=((at1 hr.may).row hc.lt).2.2;rw[h1,R9,ev7,ey6];omega
 obtain⟨d,w1,hb1,hx1,hat⟩:=aj3 hv (i4 _);obtain⟨sv,hsv,_,sdv⟩:=hat.st_v;obtain⟨_,_,_,_,_,_,_,_,_,lds,_⟩:=hat.st;have hx1d:=hx1.trans (o6.drew w1);have k0:∀K f d w0',B5 prog (fun w'=>o6 w1.drew w') (Instr.loadAt 78 (.pointer (some ⟨gb,0,none⟩))) K f d w0'=K (A5 f d (.pointer (some a))) w0':=fun K f d w0'=>z6 (w0:=w1.drew) (o9.refl _) fun w' h=>F0 (i:=0) (((hx1d.trans h).block gb (ew1.1 hb).1 id).trans hb) hc0 bb4;have t1:=sdv (fun w'=>o6 w1.drew w') w1.drew (o9.refl _) fun w' h=>b7 ((o6.drew w1).trans h);simp only[m8,n9,simprocAttr,hb1];refine C5 (fun w'=>o6 w1.drew w') 15 (B0 [0,1,2,3,4,5,6,7,8,9,10,11,12,13,14]) (by decide +kernel) (o9.refl _) ?_;simp only[D6,B0,m8,n9,simprocAttr,k0,t1];refine B8 bA5 (am2 a (p6 p) p sv s w1.drew (ha.mono (b7 hx1d)) rfl hr.may (hsv.mono (b7 (o6.drew w1)))) (fun w2 hx2=>⟨hx2,?_⟩);rw[hc.pr];have hx02:=hx1d.trans hx2;simp only[D6,m8,simprocAttr];refine y5 cw9 (aE9 a p c w2 (ha.mono (b7 hx02)) hr hw hc.lt) ?_;rintro _ w3 ⟨ui,uo,rfl,hoi,hoo,hdj,hx3⟩;refine⟨hx2.trans hx3,?_⟩;have hx03:=hx02.trans hx3;have l3:=lds w3 (b7 ((o6.drew w1).trans (hx2.trans hx3)));rcases ev5 (decide (s.name=ofA #[]))with h1|h1
 ·simp only[D6,m8,n9,simprocAttr,l3,h1];have e1:s.name=e0:=ev8 h1;refine y5 ed8 (cs8 hoo hfew (b7 hx3)) ?_;rintro u4 w4 ⟨ho4,hm4,hb4⟩;simp only[m8,simprocAttr];refine ae5 results58 ?_;simp only[p7,simprocAttr];rw[hF,if_pos e1];exact⟨ui,u4,by trivial,(hoi.mod hm4 fun b h1 h2=>hdj b h1 h2).back hx02,ho4.back hx02,fun b h1 h2=>hdj b h1 (hb4 b h2),hx02.trans (hoo.ext2 hx3 hm4)⟩
 ·simp only[D6,m8,n9,simprocAttr,l3,h1];have e1:s.name≠e0:=ew0 h1;refine ae5 results58 ?_;simp only[p7,simprocAttr];rw[hF,if_neg e1];exact⟨ui,uo,by trivial,hoi.back hx02,hoo.back hx02,hdj,hx03⟩
theorem cx0:ag2 prog 56=true:=by kernel_rfl
theorem er7:ag2 prog 58=true:=by kernel_rfl
theorem er8:ag2 prog 59=true:=by kernel_rfl
theorem bF4(a:Addr)(i:Int)(q:A4)(c1 c2 c3 c4:Value):C1 prog 116 [(0,.pointer (some a)),(1,.int .i64 i),(2,.agg #[o7 q,c1,c2,c3,c4])]=some (.agg (H2 a i q c1 c2 c3 c4 (.slice none 0 0) (.slice none 0 0))):=by
 unfold H2;simp[C1,cG4,J6,Instr.fill,Value.cells,o7]
theorem PV.new{w w2:World}(a:Addr)(i:Int)(q:A4)(c1 c2 c3 c4:Value)(hx:o6 (w.alloc (.cells (H2 a i q c1 c2 c3 c4 (.slice none 0 0) (.slice none 0 0)) 116)) w2):
  PV (B4 w2 (nP w.heap.size (.slice none 0 0))) w w2 w.heap.size a i q c1 c2 c3 c4 (.slice none 0 0) []∧PE (B4 w2 (nP w.heap.size (.slice none 0 0))) w w2 w.heap.size a i q c1 c2 c3 c4 (.slice none 0 0) []:=by
 have hx2:o6 w w2:=(o6.alloc _ _).trans hx;have hcb:w2.heap[w.heap.size]?=some (.cells (H2 a i q c1 c2 c3 c4 (.slice none 0 0) (.slice none 0 0)) 116 (0,0)):=(hx.block _ (by simp) id).trans (ez9 w _);exact⟨⟨hx2,ex0 _,hcb,A8.nil _ _ _,A8.nil _ _ _,fun b h=>absurd h D1,fun b h=>absurd h D1,fun b h=>h.elim,fun b h=>h.elim,hx2.size,i4 _⟩,
  ⟨hx2,ex0 _,hcb,A8.nil _ _ _,A8.nil _ _ _,fun b h=>absurd h D1,fun b h=>absurd h D1,fun b h=>h.elim,fun b h=>h.elim,hx2.size,i4 _⟩⟩
theorem cd1{w w2:World}(hx:o6 w w2):B3 (d7 w) (B4 w2 (nP w.heap.size (.slice none 0 0))):=aG2 hx fun b hb=>by
 rcases hb with h|h|h|h
 ·rw[h];exact ex0 _
 ·exact absurd h D1
 ·exact absurd h D1
 ·exact h.elim
theorem cz2{w w1 w2:World}(hw1:w.heap.size<w1.heap.size){α:Type}[J0 α]{T:TypeId}{u:Value}{l:List α}(ho:A8 (d7 w1) w2 T u l):R (B4 w2 (nP w.heap.size (.slice none 0 0))) u l:=
 ho.flatR fun b hb=>D3 fun h=>by
  have:=C6 (ho.free hb);rcases h with h|h|h|h
  ·omega
  ·exact absurd h D1
  ·exact absurd h D1
  ·exact h.elim
theorem ah5{p:Pg}(hr:E2 p)(hw:D0 p≤1000000){i:Nat}(hi:i<p.procs.length):((p6 p).slotsIn (i:Int)).length≤33:=by
 have h1:=((aG3 hr hw).row hi).2.2;have h2:=O7 hr.may hi;unfold Bk.slotsIn;rw[S6 hi,R9,ev7,ew5];have e:(p6 p).ins=Y0 p:=rfl;rw[e];omega
theorem ak0{p:Pg}(hr:E2 p){i:Nat}(hi:i<p.procs.length):((p6 p).slotsOut (i:Int)).length≤26:=by
 have h1:=((at1 hr.may).row hi).2.2;have e:(p6 p).slotsOut (i:Int)=S5 (F5 (H6 p) (i:Int)++[M2]):=rfl;rw[e,R9,ev7,ey6];omega
theorem aX1{p:Pg}(hr:E2 p){s:St}{c:Nat}(hc:aA0 p s c):((p6 p).callOut s).length≤26:=by
 have h1:=ak0 hr hc.lt;have e:(p6 p).s.pr s.proc=(c:Int):=hc.pr;unfold Bk.callOut;rw[e];split
 ·exact ew2 (ey4 _ _) h1
 ·exact h1
def Q7(p:Pg)(q:A4)(it:It):List Vx:=[⟨q,2,it.s.id,e0⟩]++if it.s.kind=4 then(((p6 p).slotsIn ((p6 p).s.pr it.s.proc)).map fun n=>(⟨q,5,it.s.id,n⟩:Vx))++((p6 p).callOut it.s).map fun n=>(⟨q,6,it.s.id,n⟩:Vx)else[]
theorem aE6{p:Pg}(hr:E2 p)(hw:D0 p≤1000000)(q:A4){it:It}(hit:it∈(b9 p).l):(Q7 p q it).length≤100:=by
 unfold Q7;rw[ev7,ey6];split
 ·rename_i h4;obtain⟨c,hc⟩:=W0 (hr.fits it hit h4);have e:(p6 p).s.pr it.s.proc=(c:Int):=hc.pr;have h1:=ah5 hr hw hc.lt;have h2:=aX1 hr hc;rw[e,ev7,ew5,ew5];omega
 ·simp
theorem cz9{p:Pg}{i x y:Nat}(pt:am4 p i x y){it:It}(hit:it∈(b9 p).of i):it∈(b9 p).l:=by
 rw[pt.ok.of_]at hit;exact eE0 (eG3 hit)
theorem aN3(a:Addr)(p:Pg)(i:Nat)(w:World)(ha:At (d7 w) a (p6 p))(hr:E2 p)(hw:D0 p≤1000000)(hi:i<p.procs.length):
  Calls prog 39 #[.pointer (some a),.int .i64 i] w fun e w'=>∃u,e = .returned u∧(A8 (d7 w) w' 36 u ((p6 p).verts (i:Int))∧o6 w w'):=by
 refine d9 (args:=[.pointer (some a),.int .i64 i]) hm func39 rfl (by kernel_rfl) (by show 2≤_;decide +kernel) ?_;obtain⟨il,hil,hil1⟩:=cX7;obtain⟨x,pt⟩:=N1 hr.may hw i hi;have h200:=J4 hr.may;obtain⟨sh,vw,vd,_,vi,vo,has,hvw,hvd,_,hvi,hvo,ldb,sdb⟩:=ha.book rfl;obtain⟨_,_,_,_,_,_,hpg,_,_⟩:=has.sh;rw[I5]at hpg;obtain⟨vg,vp,hvg,hvp,ldp,sdp⟩:=hpg.pg;have lb:=ldb w (i4 _);have lp:=ldp w (i4 _);have hF:(p6 p).vert0 (i:Int)=([⟨p.procs[i].name,1,0,e0⟩]++((p6 p).slotsIn (i:Int)).map fun n=>(⟨p.procs[i].name,3,0,n⟩:Vx))++(((p6 p).slotsOut (i:Int)).map fun n=>(⟨p.procs[i].name,4,0,n⟩:Vx))++((b9 p).of i).flatMap (Q7 p p.procs[i].name):=by
  unfold Bk.vert0;rw[S6 hi];rfl
 have hfi:=ah5 hr hw hi;have hfo:=ak0 hr hi;have hVl:∀it∈(b9 p).of i,(Q7 p p.procs[i].name it).length≤100:=fun it hit=>aE6 hr hw _ (cz9 pt hit);have hV:∀it,Q7 p p.procs[i].name it=[⟨p.procs[i].name,2,it.s.id,e0⟩]++if it.s.kind=4 then(((p6 p).slotsIn ((p6 p).s.pr it.s.proc)).map fun n=>(⟨p.procs[i].name,5,it.s.id,n⟩:Vx))++((p6 p).callOut it.s).map fun n=>(⟨p.procs[i].name,6,it.s.id,n⟩:Vx)else[]:=fun it=>rfl;have hcalls:∀it∈(b9 p).of i,it.s.kind=4→∃c,aA0 p it.s c:=fun it hit h4=>W0 (hr.fits it (cz9 pt hit) h4);have hlens:((b9 p).of i).length≤200:=by
  rw[pt.ok.of_,eD0,ew9];omega
 have hin:=hvp.inS hi;obtain⟨sv,hsv,hld⟩:=G1 (P:=prog) (t:=51) hvp (i4 _) (ev4 hi) ao8 ap2 ao9 O8;rw[O8]at hld;obtain⟨cs,rfl,c1,c2,c3,c4,rfl,_⟩:=hsv;generalize p.procs[i].name=q at hF hV hVl hld;have hbp:=bF4 a (i:Int) q c1 c2 c3 c4;have hbx:(Instr.box 116 (.agg (H2 a i q c1 c2 c3 c4 (.slice none 0 0) (.slice none 0 0)))).run prog w = .ok (.pointer (some ⟨w.heap.size,0,none⟩)) (w.alloc (.cells (H2 a i q c1 c2 c3 c4 (.slice none 0 0) (.slice none 0 0)) 116)):=rfl;simp only[m8,n9,y0,simprocAttr,lb,lp,hin,hld,hbp,hbx];have hxa:=o6.alloc w (.cells (H2 a i q c1 c2 c3 c4 (.slice none 0 0) (.slice none 0 0)) 116);have hsz1:w.heap.size<(w.alloc (.cells (H2 a i q c1 c2 c3 c4 (.slice none 0 0) (.slice none 0 0)) 116)).heap.size:=by simp
 generalize hw1:w.alloc (.cells (H2 a i q c1 c2 c3 c4 (.slice none 0 0) (.slice none 0 0)) 116)=w1 at hxa hsz1;refine y5 cw9 (aE9 a p i w1 (ha.mono (b7 hxa)) hr hw hi) ?_;rintro _ w2 ⟨ui,uo,rfl,hoi,hoo,hdj,hx2⟩;have hx02:=hxa.trans hx2;rw[←hw1]at hx2;have s2:=(PV.new a i q c1 c2 c3 c4 hx2).1;have hui:=cz2 hsz1 hoi;have huo:=cz2 hsz1 hoo;have hbase:=cd1 hx02;generalize hgb:w.heap.size=gb at s2 hui huo hbase;generalize hH0:B4 w2 (nP gb (.slice none 0 0))=H0 at s2 hui huo hbase;have s3:=s2.more (o6.drew w2);have hcb:∀w',o9 (fun _=>False) w2.drew w'→w'.heap[gb]?=some (.cells (H2 a i q c1 c2 c3 c4 (.slice none 0 0) (.slice none 0 0)) 116 (0,0)):=fun w' hm=>(hm.block gb (ew1.1 s3.cb).1 id).trans s3.cb;have k7:∀K f d w0',B5 prog (fun w'=>o9 (fun _=>False) w2.drew w') (Instr.loadAt 30 (.pointer (some ⟨gb,7,none⟩))) K f d w0'=K (A5 f d (.slice none 0 0)) w0':=fun K f d w0'=>z6 (w0:=w2.drew) (o9.refl _) fun w' h=>F0 (i:=7) (u:=.slice none 0 0) (hcb w' h) rfl bw4;simp only[m8,simprocAttr];refine C5 (fun w'=>o9 (fun _=>False) w2.drew w') 9 (B0 [0,1,2,3,4,5,6,7,8]) (by decide +kernel) (o9.refl _) ?_;have hse:Value.string {data:=#[]}=o7 e0:=rfl;simp only[D6,B0,m8,n9,simprocAttr,k7,hse];refine y5 aj0 (H9 gb _ _ q 1 0 e0 w2.drew s3.cb rfl) ?_;rintro _ w3 ⟨rfl,hx3⟩;refine⟨hx3,?_⟩;have s4:=s3.more hx3;obtain⟨p1,v5,w4,w5,p2,p3,s5,p4⟩:=s4.push (P:=prog) (e:=30) bl7 rfl (x:=.agg (A0.cells (⟨q,1,0,e0⟩:Vx)).toArray) (y:=⟨q,1,0,e0⟩) ((A0.iff_ _ _ _).2 rfl) (by simp) (by simp) (ix:=7) (by simp[H2]) (fun v v'=>by simp[H2]) hil hil1;have p4':o9 (fun _=>False) w3 w4:=p4.weaken fun b _ hb=>D1 hb;simp only[D6,m8,n9,simprocAttr,p1,p2,G0];refine⟨hx3.trans (o6.alloc _ _),hx3.trans p4',?_⟩;simp only[m8,simprocAttr,p3];simp only[eG5]at s5;have hui5:=z7.mono s5.base hui;refine y5 cx0 (aG9 H0 gb a i q c1 c2 c3 c4 v5 _ 3 0 ui _ w w5 s5 hui5 (by rw[ey6];omega)) ?_;rintro r6 w6 ⟨v6,s6⟩;have s6:=s6.rebase (p9 s5.base s6.base);have huo6:=z7.mono s6.base huo;simp only[m8,simprocAttr];refine y5 cx0 (aG9 H0 gb a i q c1 c2 c3 c4 v6 _ 4 0 uo _ w w6 s6 huo6 (by rw[ev7,ey6,ew5];omega)) ?_;rintro r7 w7 ⟨v7,s7⟩;have s7:=s7.rebase (p9 s6.base s7.base);have hb7:B3 (d7 w) (d7 w7):=p9 hbase s7.hb;have lb7:=ldb w7 hb7;simp only[m8,n9,simprocAttr,lb7];refine y5 aY9 (aE1 (d7 w) sh (b9 p) i x _ w7 has hb7 pt.ok) ?_;rintro ul w8 ⟨hul,hx8⟩;have s8:=s7.more hx8;have hprel:(([(⟨q,1,0,e0⟩:Vx)]++((p6 p).slotsIn (i:Int)).map fun n=>(⟨q,3,0,n⟩:Vx))++(((p6 p).slotsOut (i:Int)).map fun n=>(⟨q,4,0,n⟩:Vx))).length≤60:=by
  rw[ev7,ev7,ey6,ew5,ew5];omega
 generalize(([(⟨q,1,0,e0⟩:Vx)]++((p6 p).slotsIn (i:Int)).map fun n=>(⟨q,3,0,n⟩:Vx))++(((p6 p).slotsOut (i:Int)).map fun n=>(⟨q,4,0,n⟩:Vx)))=pre at s8 hF hprel;generalize(b9 p).of i=L at hul hF hVl hcalls hlens;have hSl:=hul.isS;have hnl:=hul.vlen;clear s2 s3 s4 s5 s6 s7 hcb k7;simp only[m8,n9,simprocAttr,hSl,hnl];refine n7 [0,1,5,53,54] (σ:=Nat×Value) (fun t f w'=>f 55 = .int .i64 t.1∧t.1≤L.length∧PV H0 w w' gb a i q c1 c2 c3 c4 t.2 (pre++(L.take t.1).flatMap (Q7 p q))) (fun t=>L.length-t.1) (0,v7) (by decide +kernel) ?_ ?_
 ·simp only[p7,simprocAttr];exact⟨by trivial,ew6 _,by simpa using s8⟩
 clear s8;rintro⟨k,v⟩ f w9 hk ⟨h55,hkl,s9⟩;simp only at h55 hkl s9;simp only[ev6,p7,simprocAttr]at hk;obtain⟨e0',e1,e5,e53,e54,_⟩:=hk;have hpl:(pre++(L.take k).flatMap (Q7 p q)).length≤30000:=by
  rw[ev7];have h1:=Q9 (Q7 p q) 100 (L.take k) fun z hz=>hVl z (eE0 hz);rw[ew9]at h1;have h2:min k L.length≤200:=by omega
  omega
 have hb9:B3 (d7 w) (d7 w9):=p9 hbase s9.hb;simp only[m8,n9,simprocAttr,h55,e54];refine i5 (fun hc=>?_) (fun hc=>?_);rotate_left
 ·have hge:k=L.length:=by simp at hc;omega
  subst hge;rw[ew7]at s9 hpl;have l7:(Instr.loadAt 30 (.pointer (some ⟨gb,7,none⟩))).run prog w9 = .ok v w9:=F0 (i:=7) (u:=v) s9.cb rfl bw4;simp only[m8,n9,simprocAttr,e5,l7];refine y5 er8 (bV9 s9.ox (by omega) fun a _ b _ h1 h2=>bn9 (ca2.eq0 h1 h2)) ?_;rintro _ w10 ⟨ho10,hm10⟩;have l7':(Instr.loadAt 30 (.pointer (some ⟨gb,7,none⟩))).run prog w10 = .ok v w10:=F0 (i:=7) (u:=v) ((hm10.block gb (ew1.1 s9.cb).1 fun h=>(s9.dx gb h).2.1 rfl).trans s9.cb) rfl bw4;simp only[m8,n9,simprocAttr,e5,l7'];refine n8 results39 ?_;simp only[p7,simprocAttr];refine⟨?_,o9.ext_of s9.ext hm10 fun b hb=>(s9.dx b hb).1⟩;have e:(p6 p).verts (i:Int)=T9 cJ1 (pre++L.flatMap (Q7 p q)):=by unfold Bk.verts;rw[hF]
  rw[e];exact ho10.downN (p9 hbase s9.base)
 have hlt:k<L.length:=by simpa using hc
 have htk:=J1 (Q7 p q) L hlt;have hmem:=ew4 hlt;clear hin hld;have hin:=hul.inS hlt;obtain⟨sv,hsv,hld⟩:=G1 (P:=prog) (t:=121) hul (hb9) (ev4 hlt) Y7 Y9 Y8 I9;rw[I9]at hld;have hVe:=hV L[k];have hcl:=hcalls _ hmem;generalize L[k]=it at hsv htk hVe hcl;generalize hys:pre++(L.take k).flatMap (Q7 p q)=ys at s9 hpl;obtain⟨d,wz,w10,hal,hst,hx10,hati⟩:=aH8 (w:=w9) (nP gb v) hsv fun b hb=>s9.lt hb;have s10:=s9.more hx10;have b10:=s10.base;have s10:=s10.rebase (i4 _);generalize hK:B4 w10 (nP gb v)=K at s10 b10 hati;obtain⟨us,hus,hats,_,_⟩:=J7.it hsv hati;obtain⟨_,_,_,_,_,_,_,_,_,_,_,lds,sds⟩:=J7.st hus hats;have ldv:=(J7.st_v hus hats).1;have s11:=s10.more (o6.drew w10);have hcb11:∀w',o9 (A3 v) w10.drew w'→w'.heap[gb]?=some (.cells (H2 a i q c1 c2 c3 c4 v (.slice none 0 0)) 116 (0,0)):=fun w' hm=>(hm.block gb (ew1.1 s11.cb).1 fun h=>(s11.dx gb h).2.1 rfl).trans s11.cb;have k7:∀K f d w0',B5 prog (fun w'=>o9 (A3 v) w10.drew w') (Instr.loadAt 30 (.pointer (some ⟨gb,7,none⟩))) K f d w0'=K (A5 f d v) w0':=fun K f d w0'=>z6 (w0:=w10.drew) (o9.refl _) fun w' h=>F0 (i:=7) (u:=v) (hcb11 w' h) rfl bw4;have t1:=sds (fun w'=>o9 (A3 v) w10.drew w') w10.drew (o9.refl _) fun w' h=>p9 s11.base (p9 (H1 h (fun b hb=>.inr (.inl hb)) fun b hb=>.inl hb) (B7 _ _));simp only[m8,n9,y0,simprocAttr,h55,e53,hin,hld,hal,hst];refine C5 (fun w'=>o9 (A3 v) w10.drew w') 12 (B0 [0,1,2,3,4,5,6,7,8,9,10,11]) (by decide +kernel) (o9.refl _) ?_;simp only[D6,B0,m8,n9,simprocAttr,e5,k7,t1];refine y5 aj0 (H9 gb _ _ q 2 it.s.id e0 w10.drew s11.cb rfl) ?_;rintro _ w12 ⟨rfl,hx12⟩;refine⟨o9.up hx12,?_⟩;have s12:=s11.more hx12;obtain⟨p1,v',w13,w14,p2,p3,s14,p4⟩:=s12.push (P:=prog) (e:=30) bl7 rfl (x:=.agg (A0.cells (⟨q,2,it.s.id,e0⟩:Vx)).toArray) (y:=⟨q,2,it.s.id,e0⟩) ((A0.iff_ _ _ _).2 rfl) (by omega) (by omega) (ix:=7) (by simp[H2]) (fun v v'=>by simp[H2]) hil hil1;simp only[D6,m8,n9,simprocAttr,p1,p2,G0];refine⟨(o9.up hx12).trans (o9.up (o6.alloc _ _)),(o9.up hx12).trans p4,?_⟩;have l14:=lds w14 s14.hb;have hb14:B3 (d7 w) (d7 w14):=p9 hbase (p9 b10 s14.hb);have hyl:(ys++[(⟨q,2,it.s.id,e0⟩:Vx)]).length≤30001:=by rw[ev7,ey6];omega
 clear s9 s10 s11 s12 k7 hcb11 t1;rcases ev5 (decide (it.s.kind=4))with h4|h4
 ·have e4:=ev8 h4;obtain⟨c,hc4⟩:=hcl e4;have epr:(p6 p).s.pr it.s.proc=(c:Int):=hc4.pr;have hf1:=ah5 hr hw hc4.lt;have hf2:=aX1 hr hc4;rw[if_pos e4,epr]at hVe;have lv14:=ldv w14 s14.hb;simp only[m8,n9,simprocAttr,e5,p3,l14,h4,lv14];refine y5 er7 (cn2 gb _ _ a p us it.s c w14 s14.cb rfl (ha.mono hb14) hr hw (hus.mono hb14) hc4) ?_;rintro _ w15 ⟨ui2,uo2,rfl,hoi2,hoo2,hdj2,hx15⟩;have s15:=s14.more hx15;have hui2:=s14.fresh hoi2;have huo2:=s14.fresh hoo2;have l15:=lds w15 s15.hb;generalize(p6 p).slotsIn (c:Int)=Si at hVe hf1 hui2;generalize(p6 p).callOut it.s=So at hVe hf2 huo2;simp only[m8,n9,simprocAttr,e5,l15];refine y5 cx0 (aG9 K gb a i q c1 c2 c3 c4 v' _ 5 it.s.id ui2 Si w w15 s15 hui2 (by omega)) ?_;rintro _ w16 ⟨v16,s16⟩;have huo16:=z7.mono s16.base huo2;have b16:=p9 s15.base s16.base;have l16:=lds w16 (p9 b16 (B7 _ _));simp only[m8,n9,simprocAttr,e5,l16];refine y5 cx0 (aG9 _ gb a i q c1 c2 c3 c4 v16 _ 6 it.s.id uo2 So w w16 s16 huo16 (by rw[ev7,ew5];omega)) ?_;rintro _ w17 ⟨v17,s17⟩;have hlist:pre++(L.take (k+1)).flatMap (Q7 p q)=ys++[(⟨q,2,it.s.id,Go.Proofs.YtcbnbgpphippoaaGreat.e0⟩:Vx)]++(Si.map fun n=>(⟨q,5,it.s.id,n⟩:Vx))++So.map fun n=>(⟨q,6,it.s.id,n⟩:Vx):=by
   rw[htk,hVe,←hys];simp only[ey3]
  simp only[m8,n9,simprocAttr,h55];refine⟨(k+1,v17),by simp only[];omega,by simp only[];rw[B1 k (by omega)],by simp only[];omega,?_⟩;simp only[];rw[hlist];exact s17.rebase (p9 b10 (p9 b16 s17.base))
 ·have e4:=ew0 h4;rw[if_neg e4,ey7]at hVe;have hlist:pre++(L.take (k+1)).flatMap (Q7 p q)=ys++[(⟨q,2,it.s.id,Go.Proofs.YtcbnbgpphippoaaGreat.e0⟩:Vx)]:=by
   rw[htk,hVe,←hys];simp only[ey3]
  simp only[m8,n9,simprocAttr,p3,l14,h4,h55];refine⟨(k+1,v'),by simp only[];omega,by simp only[];rw[B1 k (by omega)],by simp only[];omega,?_⟩;simp only[];rw[hlist];exact s14.rebase (p9 b10 s14.base)
theorem bW0(vs:Value)(ag:Ar)(w:World)(hv:SV (d7 w) vs ag)(hl:S3 ag.x≤1000000):
  Calls prog 109 #[vs] w fun e w'=>∃u,e = .returned u∧(A8 (d7 w) w' 9 u (V1 ag)∧o6 w w'):=by
 refine d9 (args:=[vs]) hm func109 rfl (by kernel_rfl) (by show 1≤_;decide +kernel) ?_;obtain⟨d,w1,hb1,hx1,hat⟩:=cL2 hv (i4 _);obtain⟨hatx,ldg,_⟩:=hat.ar;obtain⟨sx,hsx,ldx,_⟩:=hatx.ex_v;have l1:=ldg w1 (i4 _);have lx1:=ldx w1 (i4 _);unfold V1;cases hr:ag.ref
 ·rw[hr]at l1;simp only[m8,n9,simprocAttr,hb1,l1,lx1];refine y5 bA6 (am3 sx ag.x w1 hsx hl) ?_;rintro u w2 ⟨ho,hx2⟩;simp only[m8,simprocAttr];refine n8 results109 ?_;simp only[p7,simprocAttr];exact⟨ho.back hx1,hx1.trans hx2⟩
 ·rw[hr]at l1;obtain⟨u,w2,q1,q2,q3,_⟩:=cc4 ag.name w1 (b7 hx1);simp only[m8,n9,simprocAttr,hb1,l1,q1];refine n8 results109 ?_;simp only[p7,simprocAttr];exact⟨q2,hx1.trans q3⟩
theorem dI5(w:World):∃w0,(Instr.alloc 36 true (.tuple #[])).run prog w = .ok (.pointer (some ⟨w.heap.size,0,none⟩)) w0∧o6 w w0∧∀(w':World) (y:Vx),o6 w0 w' →
  ∃w'',(Instr.storeAt 36 (.pointer (some ⟨w.heap.size,0,none⟩)) (.agg (A0.cells y).toArray)).run prog w' = .ok () w''∧(Instr.loadAt 36 (.pointer (some ⟨w.heap.size,0,none⟩))).run prog w'' = .ok (.agg (A0.cells y).toArray) w''∧o6 w w'':=by
 obtain⟨z,hz,hzs⟩:∃z,H3 prog 36=some z∧z.cells.size=E4 prog 36:=⟨_,bw8,by rw[V8];rfl⟩;have hcs:∀y:Vx,(A0.cells y).toArray.size=E4 prog 36:=fun y=>by rw[V8];rfl
 have h1:=(aU2 (P:=prog) (w:=w) (T:=36) hz hzs (cs:=(A0.cells (⟨e0,0,0,e0⟩:Vx)).toArray) (hcs _) (fun u hu=>ak7 _ u (by simpa using hu))).1;refine⟨_,h1,o6.alloc _ _,fun w' y hx=>?_⟩;have hb:w'.heap[w.heap.size]?=some (.cells z.cells 36 (0,0)):=(hx.block _ (by simp) id).trans (ez9 w _);obtain⟨w'',e1,e2,e3⟩:=ap8 (P:=prog) (T:=36) hb hz hzs (hcs y) (fun u hu=>ak7 y u (by simpa using hu));exact⟨w'',e1,ac4 e2 az4 az7 az5 (hcs y).symm,o9.ext_of ((o6.alloc _ _).trans hx) e3 fun b hb=>by rw[hb];exact ex0 _⟩
theorem br6{p:Pg}{s:St}{c:Nat}(hc:aA0 p s c):(p6 p).callee s=p.procs[c]'hc.lt:=by
 have e:(p6 p).s.pr s.proc=(c:Int):=hc.pr;unfold Bk.callee;rw[e,S6 hc.lt]
theorem ck1(gb:Nat)(T:TypeId)(cs0:Array Value)(a:Addr)(p:Pg)(q:A4)(pl:Int)(n:A4)(w:World)(hb:w.heap[gb]?=some (.cells cs0 T (0,0)))(hc0:cs0[0]?=some (.pointer (some a)))(hcq:cs0[2]?=some (o7 q))(ha:At (d7 w) a (p6 p))(hr:E2 p)(hw:D0 p≤1000000)
  (hpl:pl=0∨∃j:Nat,pl=(j:Int)+1∧j<(b9 p).l.length) :
  Calls prog 63 #[.pointer (some ⟨gb,0,none⟩),.int .i64 pl,o7 n] w fun e w'=>∃u,e = .returned u∧(u = .agg (A0.cells ((p6 p).giver q pl n)).toArray∧o6 w w'):=by
 refine d9 (args:=[.pointer (some ⟨gb,0,none⟩),.int .i64 pl,o7 n]) hm func63 rfl (by kernel_rfl) (by show 3≤_;decide +kernel) ?_;obtain⟨w0,hal,hx0,hend⟩:=dI5 w;have hblk:∀w',o6 w w'→w'.heap[gb]?=some (.cells cs0 T (0,0)):=fun w' hx=>(hx.block gb (ew1.1 hb).1 id).trans hb;have hse:Value.string {data:=#[]}=o7 e0:=rfl;have hsg:Value.string {data:=#[36,114,101,116]}=o7 M2:=rfl;rcases ev5 (decide (pl=0))with h0|h0
 ·have e0':=ev8 h0;simp only[m8,n9,simprocAttr,hal,h0];refine B8 aj0 (H9 gb T cs0 q 3 0 n w0 (hblk w0 hx0) hcq) (fun w1 hx1=>?_);obtain⟨w2,q1,q2,hx2⟩:=hend w1 ⟨q,3,0,n⟩ hx1;simp only[m8,simprocAttr,q1];refine L8 results63 (ad:=⟨w.heap.size,0,none⟩) (by simp only[p7,simprocAttr]) q2 ?_;refine⟨?_,hx2⟩;unfold Bk.giver;rw[if_pos e0']
 have hne:=ew0 h0;obtain⟨j,rfl,hjl⟩:∃j:Nat,pl=(j:Int)+1∧j<(b9 p).l.length:=by
  rcases hpl with h|h
  ·exact absurd h hne
  ·exact h
 have h200:=J4 hr.may;obtain⟨sh,vw,vd,_,vi,vo,has,hvw,hvd,_,hvi,hvo,ldb,sdb⟩:=ha.book rfl;obtain⟨vl,_,_,hvl,_,_,hpg,lds,_⟩:=has.sh;rw[I5]at hpg;obtain⟨vg,vp,hvg,hvp,ldp,sdp⟩:=hpg.pg;have hle0:=b7 hx0;have lb0:=ldb w0 hle0;have ls0:=lds w0 hle0;have k0:(Instr.loadAt 78 (.pointer (some ⟨gb,0,none⟩))).run prog w0 = .ok (.pointer (some a)) w0:=F0 (i:=0) (hblk w0 hx0) hc0 bb4;have hwj:IntKind.i64.wrap ((j:Int)+1-1)=(j:Int):=by rw[L4 _ (by omega)];omega
 have hinl:=hvl.inS (k:=j) hjl;have hatl:=hvl.at_ (i:=j) (x:=(b9 p).l[j]) (ev4 hjl);have hz17:z7.sz It=17:=rfl;rw[hz17]at hatl;have hmem:=ew4 hjl;have hfits:=hr.fits _ hmem;have hite:(b9 p).it ((j:Int)+1)=(b9 p).l[j]:=by
  unfold Sh.it;rw[show((j:Int)+1-1).toNat=j by omega,List.getD,ev4 hjl];rfl
 have hGv:(p6 p).giver q ((j:Int)+1) n=if((b9 p).l[j]).s.kind≠4 then⟨q,2,(j:Int)+1,e0⟩else if((b9 p).l[j]).s.name=n then⟨q,6,(j:Int)+1,M2⟩
   else match(((b9 p).l[j]).s.args.zip ((p6 p).callee ((b9 p).l[j]).s).params).find? fun x=>x.1.ref&&decide (x.1.name=n)with
    | some x=>⟨q,6,(j:Int)+1,x.2.name⟩
    | none=>⟨q,6,(j:Int)+1,n⟩:=by
  have hs:(p6 p).s=b9 p:=rfl;unfold Bk.giver;rw[if_neg hne,hs,hite];rfl
 generalize(b9 p).l[j]=it at hatl hfits hGv;obtain⟨hats,_,_⟩:=hatl.it;obtain⟨sv,hsv,ldv,_⟩:=hats.st_v;have lv0:=ldv w0 hle0;obtain⟨d,wz,w1,hal1,hst1,hx1,hat⟩:=aS1 (hsv.mono hle0) (i4 _);obtain⟨_,va,_,_,_,hva,_,_,_,ldd,_⟩:=hat.st;obtain⟨sv2,hsv2,_,sdv2⟩:=hat.st_v;have l1:=ldd w1 (i4 _);have hx01:=hx0.trans hx1;rcases ev5 (decide (it.s.kind=4))with h4|h4;rotate_left
 ·have e4:=ew0 h4;simp only[m8,n9,y0,simprocAttr,hal,h0,k0,lb0,ls0,hwj,hinl,lv0,hal1,hst1,l1,h4,hse];refine B8 aj0 (H9 gb T cs0 q 2 ((j:Int)+1) e0 w1 (hblk w1 hx01) hcq) (fun w2 hx2=>?_);obtain⟨w3,q1,q2,hx3⟩:=hend w2 ⟨q,2,(j:Int)+1,e0⟩ (hx1.trans hx2);simp only[m8,simprocAttr,q1];refine L8 results63 (ad:=⟨w.heap.size,0,none⟩) (by simp only[p7,simprocAttr]) q2 ?_;refine⟨?_,hx3⟩;rw[hGv,if_pos e4]
 have e4:=ev8 h4;rw[if_neg (by simpa using e4)]at hGv;rcases ev5 (decide (it.s.name=n))with h5|h5
 ·have e5:=ev8 h5;simp only[m8,n9,y0,simprocAttr,hal,h0,k0,lb0,ls0,hwj,hinl,lv0,hal1,hst1,l1,h4,h5,hsg];refine B8 aj0 (H9 gb T cs0 q 6 ((j:Int)+1) M2 w1 (hblk w1 hx01) hcq) (fun w2 hx2=>?_);obtain⟨w3,q1,q2,hx3⟩:=hend w2 ⟨q,6,(j:Int)+1,M2⟩ (hx1.trans hx2);simp only[m8,simprocAttr,q1];refine L8 results63 (ad:=⟨w.heap.size,0,none⟩) (by simp only[p7,simprocAttr]) q2 ?_;refine⟨?_,hx3⟩;rw[hGv,if_pos e5]
 have e5:=ew0 h5;obtain⟨c,hc⟩:=W0 (hfits e4);rw[if_neg e5,br6 hc]at hGv;have hlen:=hc.len;have hpl8:=O7 hr.may hc.lt;have hatp:=hvp.at_ (i:=c) (x:=p.procs[c]'hc.lt) (ev4 hc.lt);have hinp:=hvp.inS (k:=c) hc.lt;have hz5:z7.sz Pr=5:=rfl;rw[hz5]at hatp;obtain⟨vpa,_,_,_,hvpa,_,_,_,_,sdr⟩:=hatp.pr;have hkp:=hc.pr;generalize(p.procs[c]'hc.lt).params=pas at hGv hlen hpl8 hvpa;have hSa:=hva.isS;have hna:=hva.vlen;simp only[m8,n9,y0,simprocAttr,hal,h0,k0,lb0,ls0,hwj,hinl,lv0,hal1,hst1,l1,h4,h5,hSa,hna];refine n7 [0,1,2,6,7,44,45] (σ:=Nat) (fun k f w'=>f 46 = .int .i64 k∧k≤it.s.args.length∧(∀m (hm:m<it.s.args.length),m<k→(it.s.args[m].ref&&decide (it.s.args[m].name=n))=false)∧o6 w1 w') (fun k=>it.s.args.length-k) 0 (by decide +kernel) ?_ ?_
 ·simp only[p7,simprocAttr];exact⟨by trivial,ew6 _,fun m _ h=>by omega,o9.refl _⟩
 rintro k f w2 hk ⟨h46,hkl,hno,hx2⟩;simp only[ev6,p7,simprocAttr]at hk;obtain⟨g0,g1,g2,g6,g7,g44,g45,_⟩:=hk;simp only[m8,n9,simprocAttr,h46,g45];refine i5 (fun hc2=>?_) (fun hc2=>?_);rotate_left
 ·have hge:k=it.s.args.length:=by simp at hc2;omega
  subst hge;simp only[m8,simprocAttr,g0,g1,g2];refine B8 aj0 (H9 gb T cs0 q 6 ((j:Int)+1) n w2 (hblk w2 (hx01.trans hx2)) hcq) (fun w3 hx3=>?_);obtain⟨w4,q1,q2,hx4⟩:=hend w3 ⟨q,6,(j:Int)+1,n⟩ (hx1.trans (hx2.trans hx3));simp only[m8,simprocAttr,g6,q1];refine L8 results63 (ad:=⟨w.heap.size,0,none⟩) (by simp only[p7,simprocAttr];exact g6) q2 ?_;refine⟨?_,hx4⟩;rw[hGv,eF3.2 fun z hz=>?_];obtain⟨m,hm⟩:=eD3.1 hz;rw[List.getElem?_zip_eq_some]at hm;obtain⟨hml,hme⟩:=ev9.1 hm.1;have:=hno m hml hml;rw[hme]at this;simp[this]
 have hlt:k<it.s.args.length:=by simpa using hc2
 have hin:=hva.inS hlt;obtain⟨sv,hsv,hld⟩:=G1 (P:=prog) (t:=101) hva (b7 hx2) (ev4 hlt) ax7 ax9 ax8 U7;rw[U7]at hld;have hnok:=hno;have hargk:∀(b:Bool),(it.s.args[k].ref&&decide (it.s.args[k].name=n))=b→(b=false→∀m (hm:m<it.s.args.length),m<k+1→(it.s.args[m].ref&&decide (it.s.args[m].name=n))=false):=fun b hb hbf m hm hmk=>by
  rcases ez4 m k with h|h
  ·exact hno m hm h
  ·obtain rfl:m=k:=by omega
   rw[hb,hbf]
 have hltp:k<pas.length:=by omega
 have hfind:(it.s.args[k].ref&&decide (it.s.args[k].name=n))=true→(it.s.args.zip pas).find? (fun x=>x.1.ref&&decide (x.1.name=n))=some (it.s.args[k],pas[k]):=fun ht=>by
  rw[eD8];refine⟨ht,k,by rw[List.length_zip];omega,by rw[List.getElem_zip],fun m hm=>?_⟩;rw[List.getElem_zip];have:=hno m (by omega) hm;simp only[this];rfl
 have hatpa:=hvpa.at_ (i:=k) (x:=pas[k]) (ev4 hltp);have hinpa:=hvpa.inS (k:=k) hltp;have hz2:z7.sz Pa=2:=rfl;rw[hz2]at hatpa;obtain⟨_,sdpa⟩:=hatpa.pa;generalize pas[k]=pa at hfind sdpa;generalize it.s.args[k]=ag at hsv hargk hfind;obtain⟨d3,wz3,w3,hal3,hst3,hx3,hat3⟩:=aS0 (hsv.mono (b7 hx2)) (i4 _);obtain⟨_,ldg,_⟩:=hat3.ar;have l3:=ldg w3 (i4 _);have hx13:=hx2.trans hx3;cases hrf:ag.ref
 ·rw[hrf]at l3;simp only[m8,n9,y0,simprocAttr,h46,g44,hin,hld,hal3,hst3,l3];exact⟨k+1,by omega,by rw[B1 k (by omega)],by omega,hargk false (by rw[hrf];rfl) rfl,hx13⟩
 rw[hrf]at l3;rcases ev5 (decide (ag.name=n))with h6|h6;rotate_left
 ·simp only[m8,n9,y0,simprocAttr,h46,g2,g44,hin,hld,hal3,hst3,l3,h6];exact⟨k+1,by omega,by rw[B1 k (by omega)],by omega,hargk false (by rw[hrf,h6];rfl) rfl,hx13⟩
 have hx03:=hx01.trans hx13;have hx03d:=hx03.trans (o6.drew w3);have hh3:∀w',o6 w3.drew w'→B3 (d7 w) (d7 w'):=fun w' h=>b7 (hx03d.trans h);have t0:∀K f d w0',B5 prog (fun w'=>o6 w3.drew w') (Instr.loadAt 78 (.pointer (some ⟨gb,0,none⟩))) K f d w0'=K (A5 f d (.pointer (some a))) w0':=fun K f d w0'=>z6 (w0:=w3.drew) (o9.refl _) fun w' h=>F0 (i:=0) (hblk w' (hx03d.trans h)) hc0 bb4;have t1:=sdb (fun w'=>o6 w3.drew w') w3.drew (o9.refl _) hh3;have t2:=sdp (fun w'=>o6 w3.drew w') w3.drew (o9.refl _) hh3;have t3:=sdr (fun w'=>o6 w3.drew w') w3.drew (o9.refl _) hh3;have t4:=sdpa (fun w'=>o6 w3.drew w') w3.drew (o9.refl _) hh3;have t5:=sdv2 (fun w'=>o6 w3.drew w') w3.drew (o9.refl _) fun w' h=>b7 ((hx13.trans (o6.drew w3)).trans h);simp only[m8,n9,y0,simprocAttr,h46,g2,g44,hin,hld,hal3,hst3,l3,h6];refine C5 (fun w'=>o6 w3.drew w') 26 (B0 [0,1,2,3,4,5,6,7,8,9,10,11,12,13,14,15,16,17,22,18,19,20,21,23,24,25]) (by decide +kernel) (o9.refl _) ?_;simp only[D6,B0,m8,n9,simprocAttr,g0,g1,g7,t0,t1,t2,t5];refine B8 bA5 (am2 a (p6 p) p sv2 it.s w3.drew (ha.mono (b7 hx03d)) rfl hr.may (hsv2.mono (b7 (hx13.trans (o6.drew w3))))) (fun w4 hx4=>⟨hx4,?_⟩);rw[hkp];have hx04:=hx03d.trans hx4;simp only[D6,m8,n9,y0,simprocAttr,t3,t4,hinp,hinpa];refine B8 aj0 (H9 gb T cs0 q 6 ((j:Int)+1) pa.name w4 (hblk w4 hx04) hcq) (fun w5 hx5=>?_);obtain⟨w6,q1,q2,hx6⟩:=hend w5 ⟨q,6,(j:Int)+1,pa.name⟩ (hx1.trans (((hx13.trans (o6.drew w3)).trans hx4).trans hx5));simp only[m8,simprocAttr,g6,q1];refine L8 results63 (ad:=⟨w.heap.size,0,none⟩) (by simp only[p7,simprocAttr];exact g6) q2 ?_;refine⟨?_,hx6⟩;rw[hGv,hfind (by rw[hrf,h6];rfl)]
theorem ee0:ag2 prog 109=true:=by kernel_rfl
theorem cy8(y:Vx)(w:World){h:Hp}(hw:B3 h (d7 w)):∃v w',(Instr.buildSlice 30 1 #[(0,.agg (A0.cells y).toArray)]).run prog w = .ok v w'∧A8 h w' 36 v [y]∧o6 w w'∧(∀b,A3 v b→w.heap.size≤b):=
 lit (P:=prog) (w:=w) (h:=h) (α:=Vx) (xs:=[.agg (A0.cells y).toArray]) (ys:=[y]) (parts:=#[(0,.agg (A0.cells y).toArray)]) (n:=1) bl7 rfl (V3.2 rfl) (fun x hx=>by rw[ex9.1 hx];rfl) rfl rfl (by simp) (by simp) hw
theorem cB0{h:Hp}{w:World}{v:Value}{l:List Vx}(ho:A8 h w 36 v l)(y:Vx)(hl:l.length≤1000000)(hw:B3 h (d7 w)){e:TypeId}:
  (Instr.buildSlice 30 1 #[(0,.agg (A0.cells y).toArray)]).run prog w = .ok (.slice (some ⟨w.heap.size,0,none⟩) 1 1) (w.alloc (.cells (A0.cells y).toArray 36)) ∧
  ∃v' w',(Builtin.append_ #[30,30] e #[v,.slice (some ⟨w.heap.size,0,none⟩) 1 1]).run prog (w.alloc (.cells (A0.cells y).toArray 36)) = .ok v' w'∧A8 h w' 36 v' (l++[y])∧o9 (A3 v) w w'∧E8 w v v':=by
 have:=push (P:=prog) (e:=e) bl7 rfl ho (x:=.agg (A0.cells y).toArray) (y:=y) ((A0.iff_ _ _ _).2 rfl) (by omega) (by omega) hw;exact this
theorem cW2(s:St):∀ag∈s.args,S3 ag.x≤P4 s:=by
 cases s;intro ag h;have:=aH9 h;unfold ai4 at this;simp only[St.args]at this;simp only[P4];omega
theorem bW2(gb:Nat)(T:TypeId)(cs0:Array Value)(a:Addr)(p:Pg)(q:A4)(pl:Int)(n:A4)(w:World)(hb:w.heap[gb]?=some (.cells cs0 T (0,0)))(hc0:cs0[0]?=some (.pointer (some a)))(hcq:cs0[2]?=some (o7 q))(ha:At (d7 w) a (p6 p))(hr:E2 p)(hw:D0 p≤1000000)
  (hpl:pl = -1∨∃j:Nat,pl=(j:Int)+1∧j<(b9 p).l.length) :
  Calls prog 64 #[.pointer (some ⟨gb,0,none⟩),.int .i64 pl,o7 n] w fun e w'=>∃u,e = .returned u∧(A8 (d7 w) w' 36 u ((p6 p).takers q pl n)∧o6 w w'):=by
 refine d9 (args:=[.pointer (some ⟨gb,0,none⟩),.int .i64 pl,o7 n]) hm func64 rfl (by kernel_rfl) (by show 3≤_;decide +kernel) ?_;have hblk:∀w',o6 w w'→w'.heap[gb]?=some (.cells cs0 T (0,0)):=fun w' hx=>(hx.block gb (ew1.1 hb).1 id).trans hb;have hse:Value.string {data:=#[]}=o7 e0:=rfl;rcases ev5 (decide (pl = -1))with h0|h0
 ·have e0':=ev8 h0;simp only[m8,n9,simprocAttr,h0];refine B8 aj0 (H9 gb T cs0 q 4 0 n w hb hcq) (fun w1 hx1=>?_);obtain⟨u,w2,q1,q2,q3,_⟩:=cy8 ⟨q,4,0,n⟩ w1 (b7 hx1);simp only[m8,simprocAttr,q1];refine n8 results64 ?_;simp only[p7,simprocAttr];refine⟨?_,hx1.trans q3⟩;unfold Bk.takers;rw[if_pos e0'];exact q2
 have hne:=ew0 h0;obtain⟨j,rfl,hjl⟩:∃j:Nat,pl=(j:Int)+1∧j<(b9 p).l.length:=by
  rcases hpl with h|h
  ·exact absurd h hne
  ·exact h
 have h200:=J4 hr.may;obtain⟨sh,vw,vd,_,vi,vo,has,hvw,hvd,_,hvi,hvo,ldb,sdb⟩:=ha.book rfl;obtain⟨vl,_,_,hvl,_,_,hpg,lds,_⟩:=has.sh;rw[I5]at hpg;obtain⟨vg,vp,hvg,hvp,ldp,sdp⟩:=hpg.pg;have lb0:=ldb w (i4 _);have ls0:=lds w (i4 _);have k0:(Instr.loadAt 78 (.pointer (some ⟨gb,0,none⟩))).run prog w = .ok (.pointer (some a)) w:=F0 (i:=0) hb hc0 bb4;have hwj:IntKind.i64.wrap ((j:Int)+1-1)=(j:Int):=by rw[L4 _ (by omega)];omega
 have hinl:=hvl.inS (k:=j) hjl;have hatl:=hvl.at_ (i:=j) (x:=(b9 p).l[j]) (ev4 hjl);have hz17:z7.sz It=17:=rfl;rw[hz17]at hatl;have hmem:=ew4 hjl;have hfits:=hr.fits _ hmem;have hwts:=ad6 p hw _ hmem;have hite:(b9 p).it ((j:Int)+1)=(b9 p).l[j]:=by
  unfold Sh.it;rw[show((j:Int)+1-1).toNat=j by omega,List.getD,ev4 hjl];rfl
 have hGv:(p6 p).takers q ((j:Int)+1) n=if((b9 p).l[j]).s.kind≠4 then[⟨q,2,(j:Int)+1,e0⟩]
   else(((((b9 p).l[j]).s.args.zip ((p6 p).callee ((b9 p).l[j]).s).params).filter fun x=>(V1 x.1).contains n).map fun x=>(⟨q,5,(j:Int)+1,x.2.name⟩:Vx)) ++
    if(M7 p n&&(F5 (Y0 p) ((b9 p).pr ((b9 p).l[j]).s.proc)).contains n)=true then[(⟨q,5,(j:Int)+1,n⟩:Vx)]else[]:=by
  have hs:(p6 p).s=b9 p:=rfl;have hi:(p6 p).ins=Y0 p:=rfl;unfold Bk.takers;rw[if_neg hne,hs,hi,hite,I5]
 generalize(b9 p).l[j]=it at hatl hfits hGv hwts;have hwta:∀ag∈it.s.args,S3 ag.x≤1000000:=fun ag h=>ew2 (cW2 it.s ag h) hwts;obtain⟨hats,_,_⟩:=hatl.it;obtain⟨sv,hsv,ldv,_⟩:=hats.st_v;have lv0:=ldv w (i4 _);obtain⟨d,wz,w1,hal1,hst1,hx1,hat⟩:=aS1 hsv (i4 _);obtain⟨_,va,_,_,_,hva,_,_,_,ldd,_⟩:=hat.st;obtain⟨sv2,hsv2,_,sdv2⟩:=hat.st_v;have l1:=ldd w1 (i4 _);rcases ev5 (decide (it.s.kind=4))with h4|h4;rotate_left
 ·have e4:=ew0 h4;simp only[m8,n9,y0,simprocAttr,h0,k0,lb0,ls0,hwj,hinl,lv0,hal1,hst1,l1,h4,hse];refine B8 aj0 (H9 gb T cs0 q 2 ((j:Int)+1) e0 w1 (hblk w1 hx1) hcq) (fun w2 hx2=>?_);obtain⟨u,w3,q1,q2,q3,_⟩:=cy8 ⟨q,2,(j:Int)+1,e0⟩ w2 (b7 (hx1.trans hx2));simp only[m8,simprocAttr,q1];refine n8 results64 ?_;simp only[p7,simprocAttr];refine⟨?_,(hx1.trans hx2).trans q3⟩;rw[hGv,if_pos e4];exact q2
 have e4:=ev8 h4;obtain⟨c,hc⟩:=W0 (hfits e4);rw[if_neg (by simpa using e4),br6 hc,hc.pr]at hGv;have hlen:=hc.len;have hpl8:=O7 hr.may hc.lt;have hatp:=hvp.at_ (i:=c) (x:=p.procs[c]'hc.lt) (ev4 hc.lt);have hinp:=hvp.inS (k:=c) hc.lt;have hz5:z7.sz Pr=5:=rfl;rw[hz5]at hatp;obtain⟨vpa,_,_,_,hvpa,_,_,_,ldr,_⟩:=hatp.pr;have hkp:=hc.pr;generalize(p.procs[c]'hc.lt).params=pas at hGv hlen hpl8 hvpa;obtain⟨hrow,hrise,hfew⟩:=(aG3 hr hw).row hc.lt;generalize F5 (Y0 p) (c:Int)=row at hrow hrise hfew hGv;obtain⟨ui,hui,hci⟩:=R.row hvi (show(p6 p).ins[c]?=some row from hrow);have hini:=hvi.inS (k:=c) (show c<(Y0 p).length from(ev9.1 hrow).1);have hSa:=hva.isS;have hna:=hva.vlen;have hx1d:=hx1.trans (o6.drew w1);have t0:∀K f d w0',B5 prog (fun w'=>o6 w1.drew w') (Instr.loadAt 78 (.pointer (some ⟨gb,0,none⟩))) K f d w0'=K (A5 f d (.pointer (some a))) w0':=fun K f d w0'=>z6 (w0:=w1.drew) (o9.refl _) fun w' h=>F0 (i:=0) (hblk w' (hx1d.trans h)) hc0 bb4;have t5:=sdv2 (fun w'=>o6 w1.drew w') w1.drew (o9.refl _) fun w' h=>b7 ((o6.drew w1).trans h);simp only[m8,n9,y0,simprocAttr,h0,k0,lb0,ls0,hwj,hinl,lv0,hal1,hst1,l1,h4];refine C5 (fun w'=>o6 w1.drew w') 5 (B0 [0,1,2,3,4]) (by decide +kernel) (o9.refl _) ?_;simp only[D6,B0,m8,n9,simprocAttr,t0,t5];refine B8 bA5 (am2 a (p6 p) p sv2 it.s w1.drew (ha.mono (b7 hx1d)) rfl hr.may (hsv2.mono (b7 (o6.drew w1)))) (fun w2 hx2=>?_);rw[hkp];have hx12:=(o6.drew w1).trans hx2;have l2:=ldd w2 (b7 hx12);have hzl:(it.s.args.zip pas).length=it.s.args.length:=by rw[List.length_zip];omega
 simp only[m8,n9,simprocAttr,l2,hSa,hna];refine n7 [0,1,2,7,9,47,48] (σ:=Nat×Value) (fun t f w'=>f 49 = .int .i64 t.1∧f 8=t.2∧t.1≤it.s.args.length∧A8 (d7 w1) w' 36 t.2 ((((it.s.args.zip pas).take t.1).filter fun x=>(V1 x.1).contains n).map fun x=>(⟨q,5,(j:Int)+1,x.2.name⟩:Vx))∧o6 w1 w') (fun t=>it.s.args.length-t.1) (0,.slice none 0 0) (by decide +kernel) ?_ ?_
 ·simp only[p7,simprocAttr];exact⟨by trivial,by trivial,ew6 _,A8.nil _ _ _,hx12⟩
 rintro⟨k,u⟩ f w3 hk ⟨h49,h8,hkl,ho3,hx3⟩;simp only at h49 h8 hkl ho3;simp only[ev6,p7,simprocAttr]at hk;obtain⟨g0,g1,g2,g7,g9,g47,g48,_⟩:=hk;have hcnt:((((it.s.args.zip pas).take k).filter fun x=>(V1 x.1).contains n).map fun x=>(⟨q,5,(j:Int)+1,x.2.name⟩:Vx)).length≤k:=by
  rw[ew5];refine ew2 (ey4 _ _) ?_;rw[ew9];omega
 have hx03:=hx1.trans hx3;simp only[m8,n9,simprocAttr,h49,g48];refine i5 (fun hc2=>?_) (fun hc2=>?_)
 ·have hlt:k<it.s.args.length:=by simpa using hc2
  have hltp:k<pas.length:=by omega
  have hltz:k<(it.s.args.zip pas).length:=by omega
  have hin:=hva.inS hlt;obtain⟨sv,hsv,hld⟩:=G1 (P:=prog) (t:=101) hva (b7 hx3) (ev4 hlt) ax7 ax9 ax8 U7;rw[U7]at hld;have htk:=aB7 (fun x:Ar×Pa=>(V1 x.1).contains n) (fun x=>(⟨q,5,(j:Int)+1,x.2.name⟩:Vx)) _ hltz;rw[List.getElem_zip]at htk;simp only at htk;have hwk:=hwta _ (ew4 hlt);have hatpa:=hvpa.at_ (i:=k) (x:=pas[k]) (ev4 hltp);have hinpa:=hvpa.inS (k:=k) hltp;have hz2:z7.sz Pa=2:=rfl;rw[hz2]at hatpa;obtain⟨ldpa,_⟩:=hatpa.pa;generalize pas[k]=pa at htk ldpa;generalize it.s.args[k]=ag at hsv htk hwk;generalize hxs:(((it.s.args.zip pas).take k).filter fun x=>(V1 x.1).contains n).map (fun x=>(⟨q,5,(j:Int)+1,x.2.name⟩:Vx))=xs at ho3 htk hcnt;obtain⟨d4,wz4,w4,hal4,hst4,hx4,hat4⟩:=aS0 (hsv.mono (b7 hx3)) (i4 _);obtain⟨sa,hsa,ldsa,_⟩:=hat4.ar_v;have l4:=ldsa w4 (i4 _);have hspl:(V1 ag).length≤1000000000:=by
   unfold V1;split
   ·simp
   ·have:=aa4 ag.x;omega
  simp only[m8,n9,y0,simprocAttr,h49,g47,hin,hld,hal4,hst4,l4];refine y5 ee0 (bW0 sa ag w4 hsa hwk) ?_;rintro us w5 ⟨hos,hx5⟩;have hx15:=(hx3.trans hx4).trans hx5;have hx05:=hx1.trans hx15;simp only[m8,simprocAttr,g2];refine D2 ad1 (O4 us (V1 ag) n w5 (hos.rw_ (b7 hx5)) hspl) ?_;rcases ev5 ((V1 ag).contains n)with h6|h6;rotate_left
  ·rw[h6,if_neg (by simp),ey7]at htk;simp only[m8,n9,simprocAttr,h6,h8,h49];refine⟨(k+1,u),by simp only[];omega,by simp only[];rw[B1 k (by omega)],by trivial,by simp only[];omega,?_,hx15⟩;simp only[];rw[htk];exact(ho3.ext hx4).ext hx5
  rw[h6,if_pos rfl]at htk;have hle5:=b7 hx05;have k5:(Instr.loadAt 78 (.pointer (some ⟨gb,0,none⟩))).run prog w5 = .ok (.pointer (some a)) w5:=F0 (i:=0) (hblk w5 hx05) hc0 bb4;have lb5:=ldb w5 hle5;have lp5:=ldp w5 hle5;have lr5:=ldr w5 hle5;have lpa5:=ldpa w5 hle5;simp only[m8,n9,y0,simprocAttr,h6,h8,g0,g1,g9,k5,lb5,lp5,hinp,lr5,hinpa,lpa5];refine B8 aj0 (H9 gb T cs0 q 5 ((j:Int)+1) pa.name w5 (hblk w5 hx05) hcq) (fun w6 hx6=>?_);obtain⟨p1,u7,w7,p2,p3,p4,p5⟩:=cB0 (e:=30) (((ho3.ext hx4).ext hx5).ext hx6) ⟨q,5,(j:Int)+1,pa.name⟩ (by omega) (b7 (hx15.trans hx6));simp only[m8,n9,simprocAttr,p1,p2,h49];refine⟨(k+1,u7),by simp only[];omega,by simp only[];rw[B1 k (by omega)],by trivial,by simp only[];omega,?_,(((ho3.ext hx4).ext hx5).ext hx6).ext2 (hx15.trans hx6) p4⟩;simp only[];rw[htk];exact p3
 have hge:k=it.s.args.length:=by simp at hc2;omega
 subst hge;rw[eA1 (by omega)]at ho3 hcnt;generalize hA:((it.s.args.zip pas).filter fun x=>(V1 x.1).contains n).map (fun x=>(⟨q,5,(j:Int)+1,x.2.name⟩:Vx))=A at hGv ho3 hcnt;have hle3:=b7 hx03;have k3:(Instr.loadAt 78 (.pointer (some ⟨gb,0,none⟩))).run prog w3 = .ok (.pointer (some a)) w3:=F0 (i:=0) (hblk w3 hx03) hc0 bb4;have lb3:=ldb w3 hle3;have hli3:=G5 (P:=prog) (t:=22) hci hle3 M3;simp only[m8,n9,simprocAttr,g0,g2,k3];refine D2 cv6 (aK0 a (p6 p) p n w3 (ha.mono hle3) rfl hr.may) ?_;rcases ev5 (M7 p n)with h7|h7;rotate_left
 ·rw[h7,Bool.false_and,if_neg (by simp),ey7]at hGv;simp only[m8,simprocAttr,h7,h8];refine n8 results64 ?_;simp only[p7,simprocAttr];rw[hGv];exact⟨ho3.backN hx1,hx03⟩
 rw[h7,eC1]at hGv;simp only[m8,n9,y0,simprocAttr,h7,g0,g2,g9,k3,lb3,hini,hli3];refine D2 bI9 (ab3 ui row n w3 (z7.mono hle3 hui) (by omega) hrise) ?_;rcases ev5 (row.contains n)with h8'|h8';rotate_left
 ·rw[h8',if_neg (by simp),ey7]at hGv;simp only[m8,simprocAttr,h8,h8'];refine n8 results64 ?_;simp only[p7,simprocAttr];rw[hGv];exact⟨ho3.backN hx1,hx03⟩
 rw[h8',if_pos rfl]at hGv;simp only[m8,simprocAttr,h8,h8',g0,g1,g2];refine B8 aj0 (H9 gb T cs0 q 5 ((j:Int)+1) n w3 (hblk w3 hx03) hcq) (fun w4 hx4=>?_);obtain⟨p1,u5,w5,p2,p3,p4,p5⟩:=cB0 (e:=30) (ho3.ext hx4) ⟨q,5,(j:Int)+1,n⟩ (by omega) (b7 (hx3.trans hx4));simp only[m8,simprocAttr,p1,p2];refine n8 results64 ?_;simp only[p7,simprocAttr];rw[hGv];exact⟨p3.backN hx1,hx1.trans ((ho3.ext hx4).ext2 (hx3.trans hx4) p4)⟩
theorem ee1:ag2 prog 111=true:=by kernel_rfl
theorem ee2:ag2 prog 113=true:=by kernel_rfl
theorem aX2{α:Type}[DecidableEq α]:∀(l:List α),I8 l=ac7 (fun a b=>decide (a=b)) l
 | []=>rfl
 | [x]=>rfl
 | x::y::l=>by
  have ih:=aX2 (y::l);rw[I8,ih];simp only[ac7,ac8];by_cases h:x=y
  ·subst h;simp
  ·have h':¬y=x:=fun e=>h e.symm;simp[h,h']
def bc3(a b:Eg):Bool:=decide (a=b)
theorem bQ8{h:Hp}{w:World}{v:Value}{xs:List Eg}(ho:A8 h w 60 v xs)(hl:xs.length≤1000000000)(hh:B3 h (d7 w)):
  Calls prog 113 #[v] w fun e w'=>∃u,e = .returned u∧(A8 h w' 60 u (I8 xs)∧o9 (A3 v) w w'∧∀b,A3 u b→A3 v b):=by
 refine d9 (args:=[v]) hm func113 rfl (by kernel_rfl) (by show 1≤_;decide +kernel) ?_;rw[aX2];have hEq:(fun a b:Eg=>decide (a=b))=bc3:=rfl;rw[hEq];have hS:=ho.isS;have hn:=ho.vlen;have hvc:=ho.vcap;have hz:z7.sz Eg=9:=rfl;rcases ev5 (decide ((xs.length:Int)<2))with h2|h2
 ·simp only[m8,n9,simprocAttr,hS,hn,h2];refine n8 results113 ?_;simp only[p7,simprocAttr];have hlt:xs.length<2:=by have:=ev8 h2;omega
  have:=Z7 bc3 xs xs.length (ex0 _) fun j hj h1 h2=>by omega
  rw[ew7]at this;exact⟨by rw[this];exact ho,o9.refl _,fun b hb=>hb⟩
 have h2':2≤xs.length:=by have:=ew0 h2;omega
 simp only[m8,n9,simprocAttr,hS,hn,h2];refine n7 [0] (σ:=Nat) (fun i f w'=>f 3 = .int .i64 i∧1≤i∧i≤xs.length∧(∀j (hj:j<xs.length),1≤j→j<i→bc3 xs[j] (xs[j-1]'(by omega))=false)∧o6 w w') (fun i=>xs.length-i) 1 (by decide +kernel) ?_ ?_
 ·simp only[p7,simprocAttr];exact⟨by trivial,by simp,by omega,fun j _ h1 h2=>by omega,o9.refl _⟩
 rintro i f w2 hk ⟨h3,h1i,hil,hno,hx2⟩;simp only[ev6,p7,simprocAttr]at hk;obtain⟨e0,_⟩:=hk;simp only[m8,n9,simprocAttr,h3,e0,hS,hn];refine i5 (fun hc=>?_) (fun hc=>?_);rotate_left
 ·have hge:i=xs.length:=by simp at hc;omega
  subst hge;simp only[m8,simprocAttr,e0];refine n8 results113 ?_;simp only[p7,simprocAttr];have:=Z7 bc3 xs xs.length (ex0 _) hno;rw[ew7]at this;exact⟨by rw[this];exact ho.ext hx2,o9.up hx2,fun b hb=>hb⟩
 have hlt:i<xs.length:=by simpa using hc
 have hlt1:i-1<xs.length:=by omega
 have hR:R (d7 w2) v xs:=(ho.ext hx2).rw_ (p9 hh (b7 hx2));have hin:=ho.inS hlt;have hin1:=ho.inS hlt1;have hwi:IntKind.i64.wrap ((i:Int)-1)=((i-1:Nat):Int):=by rw[L4 _ (by omega)];omega
 obtain⟨vx,hvx,_,sx⟩:=(hR.at_ (ev4 hlt)).eg_v;obtain⟨vy,hvy,_,sy⟩:=(hR.at_ (ev4 hlt1)).eg_v;obtain rfl:=hvx.N;obtain rfl:=hvy.N;have s1:=sx (fun w'=>o6 w2.drew w') w2.drew (o9.refl _) fun w' h=>b7 ((o6.drew w2).trans h);have s2:=sy (fun w'=>o6 w2.drew w') w2.drew (o9.refl _) fun w' h=>b7 ((o6.drew w2).trans h);rw[hz]at s1 s2;have hx03:=hx2.trans (o6.drew w2);have hql:=fun w0 a b=>db8 w0 a b xs[i] xs[i-1];have hqd:decide (xs[i]=xs[i-1])=bc3 xs[i] xs[i-1]:=rfl;rw[hqd]at hql;simp only[m8,simprocAttr];refine C5 (fun w'=>o6 w2.drew w') 9 (B0 [0,1,2,3,4,5,6,7,8]) (by decide +kernel) (o9.refl _) ?_;simp only[D6,B0,m8,n9,y0,simprocAttr,h3,e0,hin,hin1,hwi,s1,s2];rcases ev5 (bc3 xs[i] xs[i-1])with hq|hq;rotate_left
 ·simp only[m8,n9,simprocAttr,O3,A0.cells,hql,hq,h3];refine⟨i+1,by omega,by rw[B1 i (by omega)],by omega,by omega,fun j hj h1 h2=>?_,hx03⟩;rcases ez4 j i with h|h
  ·exact hno j hj h1 h
  ·obtain rfl:j=i:=by omega
   exact hq
 have c1:decide ((i:Int)≤(xs.length:Int))=true:=by simp;omega
 have c2:decide ((xs.length:Int)≤(vcap v:Int))=true:=by simp;omega
 have hd:∀k:Nat,isS (reS v k xs.length 9)=true∧vlen (reS v k xs.length 9)=xs.length-k:=fun k=>by
  rcases ho with⟨rfl,rfl⟩|⟨b,c,cur,rfl,_⟩
  ·exact⟨rfl,rfl⟩
  ·exact⟨rfl,rfl⟩
 obtain⟨hSd,hnd⟩:=hd i;have hni:((xs.length-i:Nat):Int)=(xs.length:Int)-i:=by omega
 simp only[m8,n9,I3,simprocAttr,O3,A0.cells,hql,hq,h3,e0,hS,hn,c1,c2];refine n7 [0,4] (σ:=Nat×Nat×List Eg) (fun s f w'=>f 5 = .int .i64 s.1∧f 3 = .int .i64 s.2.1∧1≤s.1∧i+s.1≤xs.length∧s.2.1+1≤i+s.1∧s.2.2.length=xs.length∧A8 h w' 60 v s.2.2∧(∀j (hj:j<xs.length) (hj2:j<s.2.2.length),i+s.1≤j+1→s.2.2[j]=xs[j])∧s.2.2.take s.2.1=ac7 bc3 (xs.take (i+s.1))∧o9 (A3 v) w w') (fun s=>xs.length-(i+s.1)) (1,i,xs) (by decide +kernel) ?_ ?_
 ·simp only[p7,simprocAttr];refine⟨by trivial,by trivial,by trivial,by omega,by omega,by trivial,ho.ext hx03,fun j _ _ _=>by trivial,?_,o9.up hx03⟩;rw[am9 bc3 xs hlt (by omega),if_pos hq,Z7 bc3 xs i (by omega) hno]
 rintro⟨m,c,ys⟩ f4 w4 hk ⟨h7,h5c,h1m,him,hcm,hyl,hoy,hsuf,hpre,hm4⟩;simp only at h7 h5c h1m him hcm hyl hoy hsuf hpre;simp only[ev6,p7,simprocAttr]at hk;obtain⟨g0,g6,_⟩:=hk;rw[e0]at g0;have hh4:B3 h (d7 w4):=K7 hh hm4 fun b hb=>ho.free hb;have hlen:decide ((m:Int)<((xs.length-i:Nat):Int))=decide (i+m<xs.length):=by rw[eA2];omega
 simp only[m8,n9,simprocAttr,h7,g6,hSd,hnd,hlen];refine i5 (fun hc=>?_) (fun hc=>?_)
 ·have hm':i+m<xs.length:=ev8 hc;have hm1:i+m-1<xs.length:=by omega
  have hRy:R (d7 w4) v ys:=hoy.rw_ hh4;have hsub:=bE9 hRy (show i≤xs.length by omega) (show xs.length≤ys.length by omega);rw[hz]at hsub;have hyt:(ys.take xs.length).drop i=ys.drop i:=by rw[←hyl,ew7]
  rw[hyt]at hsub;have hg1:(ys.drop i)[m]?=some xs[i+m]:=by
   rw[eE1,ev4 (by omega),hsuf (i+m) hm' (by omega) (by omega)]
  have hg2:(ys.drop i)[m-1]?=some xs[i+m-1]:=by
   rw[eE1,show i+(m-1)=i+m-1 by omega,ev4 (by omega),hsuf (i+m-1) hm1 (by omega) (by omega)]
  have hin4:=hsub.inS (ev9.1 hg1).1;have hin5:=hsub.inS (ev9.1 hg2).1;have hwm:IntKind.i64.wrap ((m:Int)-1)=((m-1:Nat):Int):=by rw[L4 _ (by omega)];omega
  obtain⟨ux,hux,lx,tx⟩:=(hsub.at_ hg1).eg_v;obtain⟨uy,huy,_,ty⟩:=(hsub.at_ hg2).eg_v;obtain rfl:=hux.N;obtain rfl:=huy.N;have t1:=tx (fun w'=>o6 w4.drew w') w4.drew (o9.refl _) fun w' h=>b7 ((o6.drew w4).trans h);have t2:=ty (fun w'=>o6 w4.drew w') w4.drew (o9.refl _) fun w' h=>b7 ((o6.drew w4).trans h);rw[hz]at t1 t2 lx;have hql4:=fun w0 a b=>df0 w0 a b xs[i+m] xs[i+m-1];have hqd4:decide (xs[i+m]=xs[i+m-1])=bc3 xs[i+m] xs[i+m-1]:=rfl;rw[hqd4]at hql4;simp only[m8,simprocAttr];refine C5 (fun w'=>o6 w4.drew w') 9 (B0 [0,1,2,3,4,5,6,7,8]) (by decide +kernel) (o9.refl _) ?_;simp only[D6,B0,m8,n9,y0,simprocAttr,h7,g6,hin4,hin5,hwm,t1,t2];have hx45:=o6.drew w4;have ho5:=hoy.ext hx45;have hm5:o9 (A3 v) w w4.drew:=hm4.chain (o9.up hx45) fun _ _ h=>h;have hct:=am9 bc3 xs (k:=i+m) hm' (by omega);rcases ev5 (bc3 xs[i+m] xs[i+m-1])with hq4|hq4
  ·rw[if_pos hq4]at hct;simp only[m8,n9,simprocAttr,O3,A0.cells,hql4,hq4,h7];refine⟨(m+1,c,ys),by simp only[];omega,by simp only[];rw[B1 m (by omega)],h5c,by simp only[];omega,by simp only[];omega,by simp only[];omega,hyl,ho5,fun j hj hj2 h=>hsuf j hj hj2 (by simp only at h;omega),?_,hm5⟩;simp only[];rw[hpre,←hct,eF0]
  ·rw[if_neg (by rw[hq4];simp)]at hct;have hcy:c<ys.length:=by omega
   have lx5:=lx w4.drew (b7 hx45);obtain⟨w6,e6,ho6,hm6⟩:=bj8 (P:=prog) (t:=60) ho5 bn2 az6 hcy xs[i+m];rw[hz]at e6;have hin6:=hoy.inS hcy;simp only[A0.cells]at lx5 e6;simp only[m8,n9,y0,simprocAttr,O3,A0.cells,hql4,hq4,h5c,g0,g6,h7,hin4,hin6,lx5,e6];refine⟨(m+1,c+1,ys.set c xs[i+m]),by simp only[];omega,by simp only[];rw[B1 m (by omega)],by simp only[];rw[B1 c (by omega)],by simp only[];omega,by simp only[];omega,by simp only[];omega,by simp only[eC7];exact hyl,ho6,fun j hj hj2 h=>?_,?_,hm5.chain hm6 fun _ _ h=>h⟩
   ·simp only at h ⊢;rw[List.getElem_set_ne (by omega)];exact hsuf j hj (by omega) (by omega)
   ·simp only[];have hcs:c<(ys.set c xs[i+m]).length:=by simpa using hcy
    rw[ew3 hcs,List.getElem_set_self,List.take_set_of_le (ex0 _),hpre,←hct,eF0]
 ·have hm':i+m=xs.length:=by have:=ew0 hc;omega
  rw[hm',ew7]at hpre;have hcl:c<ys.length:=by omega
  have c3:decide ((c:Int)≤(xs.length:Int))=true:=by simp;omega
  have c4:decide ((c:Int)≤(vcap v:Int))=true:=by simp;omega
  obtain⟨w6,e6,ho6,hm6,hb6⟩:=aU7 (P:=prog) (t:=32) (ty:=0) hoy rfl cI5 rfl (by simp[Value.cells,Value.oneCell']) hcl;rw[hyl,hz]at e6;rw[hz]at ho6 hb6;simp only[m8,n9,I3,simprocAttr,bj4,h5c,g0,hS,hn,c2,c3,c4,e6];refine n8 results113 ?_;simp only[p7,simprocAttr];exact⟨by rw[←hpre];exact ho6,hm4.chain hm6 fun _ _ h=>h,hb6⟩
theorem bP3{h:Hp}{w:World}{v:Value}{xs:List Eg}(ho:A8 h w 60 v xs)(hl:xs.length≤1000000000)(hh:B3 h (d7 w)):
  Calls prog 65 #[v] w fun e w'=>∃u,e = .returned u∧(A8 h w' 60 u (bm0 xs)∧o9 (A3 v) w w'∧∀b,A3 u b→A3 v b):=by
 refine d9 (args:=[v]) hm func65 rfl (by kernel_rfl) (by show 1≤_;decide +kernel) ?_;simp only[m8,n9,simprocAttr];refine y5 ee1 (bM9 ho hl fun a _ b _ h1 h2=>ct2 (cW9.eq0 h1 h2)) ?_;rintro _ w1 ⟨ho1,hm1⟩;simp only[m8,simprocAttr];refine y5 ee2 (bQ8 ho1 (by rw[(F6 _ _).length_eq];exact hl) (K7 hh hm1 fun b hb=>ho.free hb)) ?_;rintro u w2 ⟨ho2,hm2,hb2⟩;simp only[m8,simprocAttr];refine n8 results65 ?_;simp only[p7,simprocAttr];exact⟨ho2,hm1.trans hm2,hb2⟩
theorem aX7(va vb:Value)(la lb:List A4)(w:World)(ha:R (d7 w) va la)(hb:R (d7 w) vb lb)(hl:la.length≤1000000000):
  Calls prog 27 #[va,vb] w fun e w'=>∃u,e = .returned u∧(u = .bool (decide (la=lb))∧o6 w w'):=by
 refine d9 (args:=[va,vb]) hm func27 rfl (by kernel_rfl) (by show 2≤_;decide +kernel) ?_;have hSa:=ha.isS;have hna:=ha.vlen;have hSb:=hb.isS;have hnb:=hb.vlen;rcases ev5 (decide ((la.length:Int)=(lb.length:Int)))with h0|h0;rotate_left
 ·simp only[m8,n9,simprocAttr,hSa,hna,hSb,hnb,h0];refine n8 results27 ?_;simp only[p7,simprocAttr];refine⟨?_,o9.refl _⟩;rw[eG0 fun e=>ew0 h0 (by rw[e])]
 have hlen:la.length=lb.length:=by have:=ev8 h0;omega
 simp only[m8,n9,simprocAttr,hSa,hna,hSb,hnb,h0];refine n7 [0,1,11,12] (σ:=Nat) (fun k f w'=>f 13 = .int .i64 k∧k≤la.length∧(∀j,j<k→la[j]?=lb[j]?)∧o6 w w') (fun k=>la.length-k) 0 (by decide +kernel) ?_ ?_
 ·simp only[p7,simprocAttr];exact⟨by trivial,ew6 _,fun j h=>by omega,o9.refl _⟩
 rintro k f w1 hk ⟨h13,hkl,hall,hx⟩;simp only[ev6,p7,simprocAttr]at hk;obtain⟨e0,e1,e11,e12,_⟩:=hk;simp only[m8,n9,simprocAttr,h13,e12];refine i5 (fun hc=>?_) (fun hc=>?_);rotate_left
 ·have hge:k=la.length:=by simp at hc;omega
  subst hge;simp only[m8,simprocAttr];refine n8 results27 ?_;simp only[p7,simprocAttr];refine⟨?_,hx⟩;rw[eE8 (eI3 fun j=>?_)];rcases ez4 j la.length with h|h
  ·exact hall j h
  ·rw[eD2 h,eD2 (by omega)]
 have hlt:k<la.length:=by simpa using hc
 have hltb:k<lb.length:=by omega
 have hinA:=ha.inS hlt;have hinB:=hb.inS hltb;have hxd:=hx.trans (o6.drew w1);have t1:∀K f d w0',B5 prog (fun w'=>o6 w1.drew w') (Instr.loadAt 9 (.pointer (some (H5 va k)))) K f d w0'=K (A5 f d (o7 la[k])) w0':=fun K f d w0'=>z6 (w0:=w1.drew) (o9.refl _) fun w' h=>ldS ha (b7 (hxd.trans h)) hlt;have t2:∀K f d w0',B5 prog (fun w'=>o6 w1.drew w') (Instr.loadAt 9 (.pointer (some (H5 vb k)))) K f d w0'=K (A5 f d (o7 lb[k])) w0':=fun K f d w0'=>z6 (w0:=w1.drew) (o9.refl _) fun w' h=>ldS hb (b7 (hxd.trans h)) hltb;simp only[m8,simprocAttr,h13];refine C5 (fun w'=>o6 w1.drew w') 8 (B0 [0,1,2,3,4,5,6,7]) (by decide +kernel) (o9.refl _) ?_;simp only[D6,B0,m8,n9,y0,simprocAttr,e0,e1,hinA,hinB,t1,t2];rcases ev5 (decide (la[k]=lb[k]))with hq|hq
 ·simp only[m8,n9,simprocAttr,hq,h13];refine⟨k+1,by omega,by rw[B1 k (by omega)],by omega,fun j hj=>?_,hxd⟩;rcases ez4 j k with h|h
  ·exact hall j h
  ·obtain rfl:j=k:=by omega
   rw[ev4 hlt,ev4 hltb,ev8 hq]
 ·simp only[m8,n9,simprocAttr,hq];refine n8 results27 ?_;simp only[p7,simprocAttr];refine⟨?_,hxd⟩;rw[eG0 fun e=>ew0 hq (by simp only[e])]
def ae8(x y:Vx)(k:Int)(e:Eg):Bool:=decide (e.src=x)&&(decide (e.dst=y)&&(decide (k=0)||decide (e.kind=k)))
theorem bL5(v:Value)(l:List Eg)(x y:Vx)(k:Int)(w:World)(hv:R (d7 w) v l)(hl:l.length≤1000000000):
  Calls prog 31 #[v,.agg (A0.cells x).toArray,.agg (A0.cells y).toArray,.int .i64 k] w fun e w'=>∃u,e = .returned u∧(u = .bool (l.any (ae8 x y k))∧o6 w w'):=by
 refine d9 (args:=[v,.agg (A0.cells x).toArray,.agg (A0.cells y).toArray,.int .i64 k]) hm func31 rfl (by kernel_rfl) (by show 4≤_;decide +kernel) ?_;have hS:=hv.isS;have hn:=hv.vlen;obtain⟨d1,w1,hb1,hx1,hat1⟩:=aF2 (SV.ofN (d7 w) x) (i4 _);obtain⟨d2,w2,hb2,hx2,hat2⟩:=aF2 (SV.ofN (d7 w1) y) (i4 _);obtain⟨sv1,hsv1,ld1,_⟩:=hat1.vx_v;obtain⟨sv2,hsv2,ld2,_⟩:=hat2.vx_v;obtain rfl:=hsv1.N;obtain rfl:=hsv2.N;have hx02:=hx1.trans hx2;simp only[m8,n9,simprocAttr,hb1,hb2,hS,hn];refine n7 [0,3,5,6,11,12] (σ:=Nat) (fun i f w'=>f 13 = .int .i64 i∧i≤l.length∧(∀j (hj:j<l.length),j<i→ae8 x y k l[j]=false)∧o6 w2 w') (fun i=>l.length-i) 0 (by decide +kernel) ?_ ?_
 ·simp only[p7,simprocAttr];exact⟨by trivial,ew6 _,fun j _ h=>by omega,o9.refl _⟩
 rintro i f w3 hk ⟨h13,hil,hno,hx3⟩;simp only[ev6,p7,simprocAttr]at hk;obtain⟨e0,e3,e5,e6,e11,e12,_⟩:=hk;simp only[m8,n9,simprocAttr,h13,e12];refine i5 (fun hc=>?_) (fun hc=>?_);rotate_left
 ·have hge:i=l.length:=by simp at hc;omega
  subst hge;simp only[m8,simprocAttr];refine n8 results31 ?_;simp only[p7,simprocAttr];refine⟨?_,hx02.trans hx3⟩;have:l.any (ae8 x y k)=false:=by
   rw[List.any_eq_false];intro e he;obtain⟨j,hj,rfl⟩:=eB1.1 he;rw[hno j hj hj];simp
  rw[this]
 have hlt:i<l.length:=by simpa using hc
 have hin:=hv.inS hlt;obtain⟨sv,hsv,hld⟩:=G1 (P:=prog) (t:=60) hv (b7 (hx02.trans hx3)) (ev4 hlt) bw5 bw7 bn2 az6;rw[az6]at hld;have hany:ae8 x y k l[i]=true→l.any (ae8 x y k)=true:=fun h=>eH6.2 ⟨_,ew4 hlt,h⟩;have hno2:ae8 x y k l[i]=false→∀j (hj:j<l.length),j<i+1→ae8 x y k l[j]=false:=fun h j hj hji=>by
  rcases ez4 j i with h'|h'
  ·exact hno j hj h'
  ·obtain rfl:j=i:=by omega
   exact h
 generalize l[i]=e at hsv hany hno2;obtain⟨d,wz,w4,hal,hst,hx4,hat⟩:=ce8 (hsv.mono (b7 (hx02.trans hx3))) (i4 _);obtain⟨hxs,hxd,ldk,_⟩:=hat.eg;obtain⟨sv3,hsv3,ls,_⟩:=hxs.vx_v;obtain⟨sv4,hsv4,ldd,_⟩:=hxd.vx_v;obtain rfl:=hsv3.N;obtain rfl:=hsv4.N;have l1:=ls w4 (i4 _);have l2:=ldd w4 (i4 _);have l3:=ldk w4 (i4 _);have l4:=ld1 w4 (b7 (hx2.trans (hx3.trans hx4)));have l5:=ld2 w4 (b7 (hx3.trans hx4));have hql:=fun w0 a b=>bz9 w0 a b e.src x;have hql2:=fun w0 a b=>bz9 w0 a b e.dst y;have hx24:=hx3.trans hx4;rcases ev5 (decide (e.src=x))with h1|h1;rotate_left
 ·simp only[A0.cells]at l1 l4;simp only[m8,n9,y0,simprocAttr,h13,e5,e11,hin,hld,hal,hst,l1,l4,O3,hql,h1];exact⟨i+1,by omega,by rw[B1 i (by omega)],by omega,hno2 (by unfold ae8;rw[h1];rfl),hx24⟩
 rcases ev5 (decide (e.dst=y))with h2|h2;rotate_left
 ·simp only[A0.cells]at l1 l2 l4 l5;simp only[m8,n9,y0,simprocAttr,h13,e5,e6,e11,hin,hld,hal,hst,l1,l4,l2,l5,O3,hql,hql2,h1,h2];exact⟨i+1,by omega,by rw[B1 i (by omega)],by omega,hno2 (by unfold ae8;rw[h1,h2];rfl),hx24⟩
 simp only[A0.cells]at l1 l2 l4 l5;rcases ev5 (decide (k=0))with h3|h3
 ·simp only[m8,n9,y0,simprocAttr,h13,e3,e5,e6,e11,hin,hld,hal,hst,l1,l4,l2,l5,O3,hql,hql2,h1,h2,h3];refine n8 results31 ?_;simp only[p7,simprocAttr];exact⟨by rw[hany (by unfold ae8;rw[h1,h2,h3];rfl)],hx02.trans hx24⟩
 rcases ev5 (decide (e.kind=k))with h4|h4
 ·simp only[m8,n9,y0,simprocAttr,h13,e3,e5,e6,e11,hin,hld,hal,hst,l1,l4,l2,l5,l3,O3,hql,hql2,h1,h2,h3,h4];refine n8 results31 ?_;simp only[p7,simprocAttr];exact⟨by rw[hany (by unfold ae8;rw[h1,h2,h3,h4];rfl)],hx02.trans hx24⟩
 ·simp only[m8,n9,y0,simprocAttr,h13,e3,e5,e6,e11,hin,hld,hal,hst,l1,l4,l2,l5,l3,O3,hql,hql2,h1,h2,h3,h4];exact⟨i+1,by omega,by rw[B1 i (by omega)],by omega,hno2 (by unfold ae8;rw[h1,h2,h3,h4];rfl),hx24⟩
theorem aN9{α:Type}(P:α→Bool){l:List α}{k:Nat}(h:k<l.length):(l.take (k+1)).filter P=(l.take k).filter P++(if P l[k]then[l[k]]else[]):=by
 rw[ew3 h,eC5];cases hp:P l[k]<;>simp[hp]
theorem cm6(v:Value)(l:List Eg)(kd:Int)(w:World)(hv:R (d7 w) v l)(hl:l.length≤1000000000):
  Calls prog 12 #[v,.int .i64 kd] w fun ex w'=>∃u,ex = .returned u∧(A8 (d7 w) w' 60 u (l.filter fun e=>decide (e.kind=kd))∧o6 w w'):=by
 refine d9 (args:=[v,.int .i64 kd]) hm func12 rfl (by kernel_rfl) (by show 2≤_;decide +kernel) ?_;have hS:=hv.isS;have hn:=hv.vlen;simp only[m8,n9,simprocAttr,hS,hn];refine n7 [1,8,9] (σ:=Nat×Value) (fun s f w'=>f 10 = .int .i64 s.1∧f 5=s.2∧s.1≤l.length∧A8 (d7 w) w' 60 s.2 ((l.take s.1).filter fun e=>decide (e.kind=kd))∧o6 w w') (fun s=>l.length-s.1) (0,.slice none 0 0) (by decide +kernel) ?_ ?_
 ·simp only[p7,simprocAttr];exact⟨by trivial,by trivial,ew6 _,A8.nil _ _ _,o9.refl _⟩
 rintro⟨k,uL⟩ f w2 hk ⟨h10,h5,hkl,ho2,hx2⟩;simp only at h10 h5 hkl ho2 hx2;simp only[ev6,p7,simprocAttr]at hk;obtain⟨e1,e8,e9,_⟩:=hk;simp only[m8,n9,simprocAttr,h10,e9];refine i5 (fun hc=>?_) (fun hc=>?_);rotate_left
 ·have hkL:k=l.length:=by simp at hc;omega
  rw[hkL,ew7]at ho2;simp only[m8,simprocAttr,h5];refine n8 results12 ?_;simp only[p7,simprocAttr];exact⟨ho2,hx2⟩
 have hlt:k<l.length:=by simpa using hc
 have hin:=hv.inS hlt;obtain⟨sv,hsv,hld⟩:=G1 (P:=prog) (t:=60) hv (b7 hx2) (ev4 hlt) bw5 bw7 bn2 az6;rw[az6]at hld;have htk:=aN9 (fun e:Eg=>decide (e.kind=kd)) hlt;have hfl:((l.take k).filter fun e=>decide (e.kind=kd)).length≤1000000000:=ew2 (ey4 _ _) (by rw[ew9];omega);generalize l[k]=e at hsv htk;obtain rfl:=hsv.N;obtain⟨d,wz,w3,hal,hst,hx3,hat⟩:=ce8 (SV.ofN (d7 w2) e) (i4 _);obtain⟨_,_,sk,_⟩:=hat.eg;obtain⟨sv,hsv2,ldv,_⟩:=hat.eg_v;obtain rfl:=hsv2.N;have t3:=sk w3 (i4 _);have t4:=ldv w3 (i4 _);have hx23:=hx2.trans hx3;have ho3:=ho2.ext hx3;rcases ev5 (decide (e.kind=kd))with hd|hd
 ·obtain⟨p1,uM,w4,p2,p3,p4,p5⟩:=push (e:=32) cZ1 rfl ho3 (x:=.agg (A0.cells e).toArray) (y:=e) (SV.ofN (d7 w) e).enc (by omega) (by omega) (b7 hx23);rw[hd,if_pos rfl]at htk;simp only[m8,n9,y0,simprocAttr,h10,e8,e1,hin,hld,hal,hst,t3,t4,hd,h5,p1,p2];refine⟨(k+1,uM),by simp only[];omega,by simp only[];rw[B1 k (by omega)],by trivial,by simp only[];omega,?_,?_⟩
  ·simp only[];rw[htk];exact p3
  ·exact o9.ext_of hx23 p4 fun b hb=>C6 (ho3.free hb)
 ·rw[hd,if_neg (by simp),ey7]at htk;simp only[m8,n9,y0,simprocAttr,h10,e8,e1,hin,hld,hal,hst,t3,hd];refine⟨(k+1,uL),by simp only[];omega,by simp only[];rw[B1 k (by omega)],by simpa using h5,by simp only[];omega,?_,hx23⟩;simp only[];rw[htk];exact ho3
theorem cm7(v:Value)(l:List Eg)(x:Vx)(kd:Int)(w:World)(hv:R (d7 w) v l)(hl:l.length≤1000000000):
  Calls prog 14 #[v,.agg (A0.cells x).toArray,.int .i64 kd,.bool false] w fun ex w'=>∃u,ex = .returned u∧(A8 (d7 w) w' 36 u ((l.filter fun e=>decide (e.kind=kd)&&decide (e.src=x)).map (·.dst))∧o6 w w'):=by
 refine d9 (args:=[v,.agg (A0.cells x).toArray,.int .i64 kd,.bool false]) hm func14 rfl (by kernel_rfl) (by show 4≤_;decide +kernel) ?_;have hS:=hv.isS;have hn:=hv.vlen;obtain⟨c,w1,hbx,hx1,hatx⟩:=aF2 (SV.ofN (d7 w) x) (i4 _);obtain⟨svx,hsvx,ldx,_⟩:=hatx.vx_v;obtain rfl:=hsvx.N;simp only[m8,n9,simprocAttr,hbx,hS,hn];refine n7 [2,3,5,12,13] (σ:=Nat×Value) (fun s f w'=>f 14 = .int .i64 s.1∧f 9=s.2∧s.1≤l.length∧A8 (d7 w) w' 36 s.2 (((l.take s.1).filter fun e=>decide (e.kind=kd)&&decide (e.src=x)).map (·.dst))∧o6 w1 w'∧∀b,A3 s.2 b→w1.heap.size≤b) (fun s=>l.length-s.1) (0,.slice none 0 0) (by decide +kernel) ?_ ?_
 ·simp only[p7,simprocAttr];exact⟨by trivial,by trivial,ew6 _,A8.nil _ _ _,o9.refl _,fun b hb=>absurd hb D1⟩
 rintro⟨k,uL⟩ f w2 hk ⟨h14,h9,hkl,ho2,hx2,hfr⟩;simp only at h14 h9 hkl ho2 hx2 hfr;simp only[ev6,p7,simprocAttr]at hk;obtain⟨e2,e3,e5,e12,e13,_⟩:=hk;simp only[m8,n9,simprocAttr,h14,e13];refine i5 (fun hc=>?_) (fun hc=>?_);rotate_left
 ·have hkL:k=l.length:=by simp at hc;omega
  rw[hkL,ew7]at ho2;simp only[m8,simprocAttr,h9];refine n8 results14 ?_;simp only[p7,simprocAttr];exact⟨ho2,hx1.trans hx2⟩
 have hlt:k<l.length:=by simpa using hc
 have hin:=hv.inS hlt;obtain⟨sv,hsv,hld⟩:=G1 (P:=prog) (t:=60) hv (b7 (hx1.trans hx2)) (ev4 hlt) bw5 bw7 bn2 az6;rw[az6]at hld;have htk:=aN9 (fun e:Eg=>decide (e.kind=kd)&&decide (e.src=x)) hlt;have hfl:(((l.take k).filter fun e=>decide (e.kind=kd)&&decide (e.src=x)).map (·.dst)).length≤1000000000:=by
  rw[ew5];exact ew2 (ey4 _ _) (by rw[ew9];omega)
 generalize l[k]=e at hsv htk;obtain rfl:=hsv.N;obtain⟨d,wz,w3,hal,hst,hx3,hat⟩:=cV4 (w:=w2) (A3 uL) (SV.ofN (d7 w2) e) fun b hb=>ho2.lt hb;obtain⟨u1,u2,hu1,hs1,hu2,ht1,sk,_⟩:=J7.eg (SV.ofN (d7 w2) e) hat;have t3:=sk w3 (B7 _ _);have t4:=(J7.vx_v hu1 hs1).1 w3 (B7 _ _);have t5:=(J7.vx_v hu2 ht1).1 w3 (B7 _ _);obtain rfl:=hu1.N;obtain rfl:=hu2.N;have hx23:=hx2.trans hx3;have tx:=ldx w3 (b7 hx23);have ho3:=ho2.ext hx3;have hql:=fun w0 a b=>bz9 w0 a b e.src x;rcases ev5 (decide (e.kind=kd))with hd|hd;rotate_left
 ·simp only[hd,Bool.false_and,eB8,eC8,ey7]at htk;simp only[m8,n9,y0,simprocAttr,h14,e12,e2,hin,hld,hal,hst,t3,hd];refine⟨(k+1,uL),by simp only[];omega,by simp only[];rw[B1 k (by omega)],by simpa using h9,by simp only[];omega,?_,hx23,hfr⟩;simp only[];rw[htk];exact ho3
 rcases ev5 (decide (e.src=x))with hq|hq;rotate_left
 ·simp only[hd,hq,eC1,eB8,eC8,ey7]at htk;simp only[A0.cells]at hld hst t4 tx;simp only[m8,n9,y0,simprocAttr,h14,e12,e2,e3,e5,hin,hld,hal,hst,t3,t4,tx,hd,O3,hql,hq];refine⟨(k+1,uL),by simp only[];omega,by simp only[];rw[B1 k (by omega)],by simpa using h9,by simp only[];omega,?_,hx23,hfr⟩;simp only[];rw[htk];exact ho3
 ·simp only[hd,hq,eC1,eB5]at htk;obtain⟨p1,uM,w4,p2,p3,p4,p5⟩:=push (e:=30) bl7 rfl ho3 (x:=.agg (A0.cells e.dst).toArray) (y:=e.dst) (SV.ofN (d7 w) e.dst).enc (by omega) (by omega) (b7 (hx1.trans hx23));have t6:=sk w4 (C9 p4);simp only[A0.cells]at hld hst t4 t5 tx p1 p2;simp only[m8,n9,y0,simprocAttr,h14,e12,e2,e3,e5,h9,hin,hld,hal,hst,t3,t4,t5,t6,tx,hd,O3,hql,hq,p1,p2];refine⟨(k+1,uM),by simp only[];omega,by simp only[];rw[B1 k (by omega)],by trivial,by simp only[];omega,?_,o9.ext_of hx23 p4 hfr,fun b hb=>?_⟩
  ·simp only[];rw[htk,ey8];exact p3
  ·rcases p5 b hb with h1|h1
   ·exact hfr b h1
   ·have:=hx23.size;omega
theorem cw7:ag2 prog 32=true:=by kernel_rfl
theorem bt6:ag2 prog 33=true:=by kernel_rfl
theorem bI3:ag2 prog 34=true:=by kernel_rfl
theorem cX3:ag2 prog 52=true:=by kernel_rfl
def J8(n:Nat):Int:=((min n 20001:Nat):Int)
theorem cL7(n:Nat):0≤J8 n∧J8 n≤20001:=by unfold J8;omega
theorem am7{n:Nat}(h:J8 n≤20000):J8 n=(n:Int)∧n≤20000:=by unfold J8 at *;omega
theorem ae6{n m:Nat}(h:¬J8 n≤20000)(hm:n≤m):J8 m=20001∧J8 n=20001:=by unfold J8 at *;omega
def F2{α:Type}(f:α→Nat)(l:List α):Nat:=(l.map f).sum
section
variable {α:Type} {f:α→Nat}
theorem af5{l:List α}{k:Nat}(hk:k<l.length):F2 f (l.take (k+1))=F2 f (l.take k)+f l[k]:=by
 unfold F2;rw[ew3 hk,ey8,List.sum_append];simp only[eA3,List.map_nil,eG2,List.sum_nil];omega
theorem au2(l:List α)(k:Nat):F2 f (l.take k)≤F2 f l:=by
 unfold F2
 conv=>rhs;rw[←eA6 k l]
 rw[ey8,List.sum_append];omega
theorem af4(h:∀x,1≤f x):∀(l:List α),l.length≤F2 f l
 | []=>by simp
 | x::l=>by
  have:=af4 h l;have:=h x;unfold F2 at *;simp only[eA3,eG2,ey0];omega
end
theorem bO9:∀l:List A4,au5 l=F2 wtT l
 | []=>rfl
 | s::l=>by rw[au5,bO9 l];rfl
theorem bx5:∀l:List Ex,ap4 l=F2 S3 l
 | []=>rfl
 | s::l=>by rw[ap4,bx5 l];rfl
theorem bx3:∀l:List Ar,Z2 l=F2 ai4 l
 | []=>rfl
 | s::l=>by rw[Z2,bx3 l];rfl
theorem aW8:∀l:List St,G7 l=F2 P4 l
 | []=>rfl
 | s::l=>by rw[G7,aW8 l];rfl
theorem bx6:∀l:List Pa,bo3 l=F2 (fun a=>wtT a.name) l
 | []=>rfl
 | s::l=>by rw[bo3,bx6 l];rfl
theorem bx7:∀l:List Pr,az8 l=F2 U8 l
 | []=>rfl
 | s::l=>by rw[az8,bx7 l];rfl
theorem aI0(s:A4):1≤wtT s:=by unfold wtT;omega
theorem cJ2(a:Ar):1≤ai4 a:=by unfold ai4;have:=aI0 a.name;omega
theorem cJ3(f:Pr):1≤U8 f:=by unfold U8;have:=aI0 f.name;omega
theorem R2(s:A4)(n:Nat)(w:World):Calls prog 33 #[o7 s,.int .i64 (J8 n)] w fun e w'=>∃u,e = .returned u∧(u = .int .i64 (J8 (n+wtT s))∧w'=w):=by
 refine d9 (args:=[o7 s,.int .i64 (J8 n)]) hm func33 rfl (by kernel_rfl) (by show 2≤_;decide +kernel) ?_;have hls:Q4 prog 9 (o7 s)=some (.int .i64 (s.b.length:Nat)):=dG2 (by kernel_rfl) (by kernel_rfl);have hr:=cL7 n;have hw:wtT s=1+s.b.length:=rfl;rcases ev5 (decide (20000<J8 n))with h1|h1
 ·have h1':=ev8 h1;simp only[m8,n9,simprocAttr,h1];refine n8 results33 ?_;simp only[p7,simprocAttr];exact⟨by rw[(ae6 (by omega) (by omega:n≤n+wtT s)).1],by trivial⟩
 have h1':=ew0 h1;obtain⟨e1,hn⟩:=am7 (n:=n) (by omega);have hw1:IntKind.i64.wrap (20000-J8 n)=20000-J8 n:=L4 _ (by omega);generalize hL:((s.b.length:Nat):Int)=L at hls;rcases ev5 (decide (20000-J8 n≤L))with h2|h2
 ·have h2':=ev8 h2;simp only[m8,n9,simprocAttr,h1,hls,hw1,h2];refine n8 results33 ?_;simp only[p7,simprocAttr];have:J8 (n+wtT s)=20001:=by unfold J8 at *;omega
  exact⟨by rw[this],by trivial⟩
 have h2':=ew0 h2;have hw2:IntKind.i64.wrap (J8 n+1)=J8 n+1:=L4 _ (by omega);have hw3:IntKind.i64.wrap (J8 n+1+L)=J8 n+1+L:=L4 _ (by omega);simp only[m8,n9,simprocAttr,h1,hls,hw1,h2,hw2,hw3];refine n8 results33 ?_;simp only[p7,simprocAttr];have:J8 (n+wtT s)=J8 n+1+L:=by unfold J8 at *;omega
 exact⟨by rw[this],by trivial⟩
theorem ae0(v:Value)(l:List A4)(n:Nat)(w:World)(hv:R (d7 w) v l):Calls prog 32 #[v,.int .i64 (J8 n)] w fun e w'=>∃u,e = .returned u∧(u = .int .i64 (J8 (n+au5 l))∧w'=w):=by
 refine d9 (args:=[v,.int .i64 (J8 n)]) hm func32 rfl (by kernel_rfl) (by show 2≤_;decide +kernel) ?_;have hS:=hv.isS;have hn:=hv.vlen;rw[bO9];simp only[m8,n9,simprocAttr];refine n7 [0] (σ:=Nat) (fun i f w'=>f 5 = .int .i64 i∧f 1 = .int .i64 (J8 (n+F2 wtT (l.take i)))∧i≤l.length∧w'=w) (fun i=>l.length-i) 0 (by decide +kernel) ?_ ?_
 ·simp only[p7,simprocAttr];exact⟨by trivial,by simp[F2],ew6 _,by trivial⟩
 rintro i f w2 hk ⟨h5,h1,hil,rfl⟩;simp only[ev6,p7,simprocAttr]at hk;obtain⟨e0,_⟩:=hk;rcases ev5 (decide ((i:Int)<(l.length:Int)))with hc|hc;rotate_left
 ·have hge:i=l.length:=by have:=ew0 hc;omega
  subst hge;rw[ew7]at h1;simp only[m8,n9,simprocAttr,h5,e0,hS,hn,hc,h1];refine n8 results32 ?_;simp only[p7,simprocAttr];exact⟨by trivial,by trivial⟩
 have hlt:i<l.length:=by have:=ev8 hc;omega
 have hle1:=au2 (f:=wtT) l i;have hin:=hv.inS hlt;have hld:=ldS hv (i4 _) hlt;have htk:=af5 (f:=wtT) hlt;have hsl:=af4 aI0 (l.take i);rw[ew9]at hsl;generalize l[i]=s at hld htk;generalize F2 wtT (l.take i)=S at h1 htk hle1 hsl;rcases ev5 (decide (J8 (n+S)≤20000))with h2|h2;rotate_left
 ·have h2':=ew0 h2;have e:=ae6 (m:=n+F2 wtT l) h2' (by omega);simp only[m8,n9,simprocAttr,h5,e0,hS,hn,hc,h1,h2];refine n8 results32 ?_;simp only[p7,simprocAttr];exact⟨by rw[e.1,e.2],by trivial⟩
 obtain⟨_,hlow⟩:=am7 (ev8 h2);simp only[m8,n9,y0,simprocAttr,h5,e0,hS,hn,hc,h1,h2,hin,hld];refine D2 bt6 (R2 s (n+S) _) ?_;simp only[m8,n9,simprocAttr,h5];exact⟨i+1,by omega,by rw[B1 i (by omega)],by rw[htk,←eF0],by omega,by trivial⟩
theorem aJ7:∀(m:Nat) (x:Ex) (v:Value) (n:Nat) (w:World),S3 x≤m→SV (d7 w) v x →
  Calls prog 52 #[v,.int .i64 (J8 n)] w fun e w'=>∃u,e = .returned u∧(u = .int .i64 (J8 (n+S3 x))∧o6 w w'):=by
 intro m
 induction m using Nat.strongRecOn with
 | ind m ih=>
 intro x v n w hsm hv;refine d9 (args:=[v,.int .i64 (J8 n)]) hm func52 rfl (by kernel_rfl) (by show 2≤_;decide +kernel) ?_;have hwx:=bE2 x;rw[bx5]at hwx;have hkm:∀y∈x.kids,S3 y<S3 x:=fun y hy=>by
  have h1:=aW7 hy;have h2:=bE2 x;have h3:=aI0 x.name;omega
 rw[hwx];obtain⟨a,w1,hbx,hx1,hat⟩:=aF1 hv (i4 _);obtain⟨vk,hk0,ld,_⟩:=hat.ex;have hSk:=hk0.isS;have hnk:=hk0.vlen;have l1:=ld w1 (i4 _);simp only[m8,n9,simprocAttr,hbx,l1];refine D2 bt6 (R2 x.name n w1) ?_;generalize hN:n+wtT x.name=N;rw[show n+(wtT x.name+F2 S3 x.kids)=N+F2 S3 x.kids by omega];generalize x.kids=l at hk0 hnk hkm;simp only[m8,simprocAttr];refine n7 [2] (σ:=Nat) (fun i f w'=>f 5 = .int .i64 i∧f 1 = .int .i64 (J8 (N+F2 S3 (l.take i)))∧i≤l.length∧o6 w1 w') (fun i=>l.length-i) 0 (by decide +kernel) ?_ ?_
 ·simp only[p7,simprocAttr];exact⟨by trivial,by simp[F2],ew6 _,o9.refl _⟩
 rintro i f w2 hk ⟨h5,h1,hil,hx2⟩;simp only[ev6,p7,simprocAttr]at hk;obtain⟨e2,_⟩:=hk;have l2:=ld w2 (b7 hx2);rcases ev5 (decide ((i:Int)<(l.length:Int)))with hc|hc;rotate_left
 ·have hge:i=l.length:=by have:=ew0 hc;omega
  subst hge;rw[ew7]at h1;simp only[m8,n9,simprocAttr,h5,e2,l2,hSk,hnk,hc,h1];refine n8 results52 ?_;simp only[p7,simprocAttr];exact⟨by trivial,hx1.trans hx2⟩
 have hlt:i<l.length:=by have:=ev8 hc;omega
 have hle1:=au2 (f:=S3) l i;have htk:=af5 (f:=S3) hlt;have hsl:=af4 aE8 (l.take i);rw[ew9]at hsl;have hin:=hk0.inS hlt;obtain⟨sv,hsv,hld⟩:=G1 (P:=prog) (t:=41) hk0 (b7 hx2) (ev4 hlt) bm8 bn6 bn1 ap0;rw[ap0]at hld;have hkl:=hkm _ (ew4 hlt);generalize l[i]=y at hsv htk hkl;generalize F2 S3 (l.take i)=S at h1 htk hle1 hsl;rcases ev5 (decide (J8 (N+S)≤20000))with h2|h2;rotate_left
 ·have h2':=ew0 h2;have e:=ae6 (m:=N+F2 S3 l) h2' (by omega);simp only[m8,n9,simprocAttr,h5,e2,l2,hSk,hnk,hc,h1,h2];refine n8 results52 ?_;simp only[p7,simprocAttr];exact⟨by rw[e.1,e.2],hx1.trans hx2⟩
 obtain⟨_,hlow⟩:=am7 (ev8 h2);simp only[m8,n9,y0,simprocAttr,h5,e2,l2,hSk,hnk,hc,h1,h2,hin,hld];refine B8 cX3 (ih (S3 y) (by omega) y sv (N+S) w2 (ex0 _) (hsv.mono (b7 hx2))) (fun w3 hx3=>?_);simp only[m8,n9,simprocAttr,h5];exact⟨i+1,by omega,by rw[B1 i (by omega)],by rw[htk,←eF0],by omega,hx2.trans hx3⟩
theorem aE7:∀(m:Nat) (l:List St) (v:Value) (n:Nat) (w:World),G7 l≤m→R (d7 w) v l →
  Calls prog 34 #[v,.int .i64 (J8 n)] w fun e w'=>∃u,e = .returned u∧(u = .int .i64 (J8 (n+G7 l))∧o6 w w'):=by
 intro m
 induction m using Nat.strongRecOn with
 | ind m ih=>
 intro l v n w hsm hv;refine d9 (args:=[v,.int .i64 (J8 n)]) hm func34 rfl (by kernel_rfl) (by show 2≤_;decide +kernel) ?_;have hsub:∀t∈l,G7 t.thn<G7 l∧G7 t.els<G7 l:=fun t ht=>by
  have h1:=ag0 ht;have h2:=Q8 t;have h3:=aI0 t.name;omega
 have hS:=hv.isS;have hn:=hv.vlen;rw[aW8]at hsm ⊢;rw[aW8 l]at hsub;simp only[m8,n9,simprocAttr];refine n7 [0] (σ:=Nat) (fun i f w'=>f 5 = .int .i64 i∧f 1 = .int .i64 (J8 (n+F2 P4 (l.take i)))∧i≤l.length∧o6 w w') (fun i=>l.length-i) 0 (by decide +kernel) ?_ ?_
 ·simp only[p7,simprocAttr];exact⟨by trivial,by simp[F2],ew6 _,o9.refl _⟩
 rintro i f w2 hk ⟨h5,h1,hil,hx2⟩;simp only[ev6,p7,simprocAttr]at hk;obtain⟨e0,_⟩:=hk;rcases ev5 (decide ((i:Int)<(l.length:Int)))with hc|hc;rotate_left
 ·have hge:i=l.length:=by have:=ew0 hc;omega
  subst hge;rw[ew7]at h1;simp only[m8,n9,simprocAttr,h5,e0,hS,hn,hc,h1];refine n8 results34 ?_;simp only[p7,simprocAttr];exact⟨by trivial,hx2⟩
 have hlt:i<l.length:=by have:=ev8 hc;omega
 have hle1:=au2 (f:=P4) l i;have htk:=af5 (f:=P4) hlt;have hsl:=af4 (f:=P4) (fun t=>by have:=bO8 t;omega) (l.take i);rw[ew9]at hsl;have hin:=hv.inS hlt;obtain⟨sv,hsv,hld⟩:=G1 (P:=prog) (t:=45) hv (b7 hx2) (ev4 hlt) bb2 bb7 aR7 ah8;rw[ah8]at hld;obtain⟨hs1,hs2⟩:=hsub _ (ew4 hlt);generalize l[i]=t at hsv htk hs1 hs2;generalize F2 P4 (l.take i)=S at h1 htk hle1 hsl;rcases ev5 (decide (J8 (n+S)≤20000))with h2|h2;rotate_left
 ·have h2':=ew0 h2;have e:=ae6 (m:=n+F2 P4 l) h2' (by omega);simp only[m8,n9,simprocAttr,h5,e0,hS,hn,hc,h1,h2];refine n8 results34 ?_;simp only[p7,simprocAttr];exact⟨by rw[e.1,e.2],hx2⟩
 obtain⟨_,hlow⟩:=am7 (ev8 h2);obtain⟨d,wz,w3,hal,hst,hx3,hat⟩:=aS1 (hsv.mono (b7 hx2)) (i4 _);have hx23:=hx2.trans hx3;obtain⟨vl,va,vt,ve,hl',hra,hth,hel,hatx,ldd,sdd⟩:=hat.st;obtain⟨sx,hsx,_,sdx⟩:=hatx.ex_v;have hwt:=Q8 t;have t1:=sdd (fun w'=>o6 w3.drew w') w3.drew (o9.refl _) fun w' h=>b7 ((o6.drew w3).trans h);have t2:=sdx (fun w'=>o6 w3.drew w') w3.drew (o9.refl _) fun w' h=>b7 ((o6.drew w3).trans h);simp only[m8,n9,y0,simprocAttr,h5,e0,hS,hn,hc,h1,h2,hin,hld,hal,hst];refine C5 (fun w'=>o6 w3.drew w') 14 (B0 [0,1,2,3,4,5,6,7,8,9,10,11,12,13]) (by decide +kernel) (o9.refl _) ?_;simp only[D6,B0,m8,n9,simprocAttr,t1,t2,h1];refine B8 cX3 (aJ7 (S3 t.x) t.x sx (n+S) w3.drew (ex0 _) (hsx.mono (b7 (o6.drew w3)))) (fun w4 hx4=>⟨hx4,?_⟩);simp only[D6,m8,simprocAttr];refine D2 cw7 (ae0 vl t.labels (n+S+S3 t.x) w4 (z7.mono (b7 ((o6.drew w3).trans hx4)) hl')) ⟨hx4,?_⟩;simp only[D6,m8,simprocAttr];refine D2 bt6 (R2 t.name (n+S+S3 t.x+au5 t.labels) w4) ⟨hx4,?_⟩;simp only[D6,m8,simprocAttr];refine D2 bt6 (R2 t.proc (n+S+S3 t.x+au5 t.labels+wtT t.name) w4) ⟨hx4,?_⟩;generalize hB:n+S+S3 t.x+au5 t.labels+wtT t.name+wtT t.proc=B;have hx34:=(o6.drew w3).trans hx4;have hSa:=hra.isS;have hna:=hra.vlen;have hB2:n+F2 P4 (l.take (i+1))=B+F2 ai4 t.args+G7 t.thn+G7 t.els:=by rw[htk,hwt,←bx3,←hB];omega
 generalize t.args=ags at hra hna hB2;simp only[D6,m8,simprocAttr];refine n7 [0,5,6] (σ:=Nat) (fun k f' w'=>f' 7 = .int .i64 k∧f' 1 = .int .i64 (J8 (B+F2 ai4 (ags.take k)))∧k≤ags.length∧o6 w3 w') (fun k=>ags.length-k) 0 (by decide +kernel) ?_ ?_
 ·simp only[p7,simprocAttr];exact⟨by trivial,by simp[F2],ew6 _,hx34⟩
 rintro k f2 w5 hk ⟨h7,h1',hkl,hx5⟩;simp only[ev6,p7,simprocAttr]at hk;obtain⟨g0,g5,g6,_⟩:=hk;rw[e0]at g0;have l5:=ldd w5 (b7 hx5);have hx25:=hx23.trans hx5;have hle2:=au2 (f:=ai4) ags k;have hx5d:=hx5.trans (o6.drew w5);have t3:=sdd (fun w'=>o6 w5.drew w') w5.drew (o9.refl _) fun w' h=>b7 (hx5d.trans h);rcases ev5 (decide ((k:Int)<(ags.length:Int))&&decide (J8 (B+F2 ai4 (ags.take k))≤20000))with hg|hg;rotate_left
 ·have hend:J8 (B+F2 ai4 (ags.take k))=J8 (B+F2 ai4 ags):=by
   rcases ev5 (decide ((k:Int)<(ags.length:Int)))with h3|h3
   ·rw[h3,eC1]at hg;have e:=ae6 (m:=B+F2 ai4 ags) (ew0 hg) (by omega);rw[e.1,e.2]
   ·have hge:k=ags.length:=by have:=ew0 h3;omega
    rw[hge,ew7]
  rw[hend]at h1';rcases ev5 (decide ((k:Int)<(ags.length:Int)))with h3|h3
  ·rw[h3,eC1,hend]at hg;simp only[m8,n9,simprocAttr,h7,g6,l5,hSa,hna,h3,hg,h1'];refine C5 (fun w'=>o6 w5.drew w') 8 (B0 [0,1,2,3,4,5,6,7]) (by decide +kernel) (o9.refl _) ?_;simp only[D6,B0,m8,n9,simprocAttr,g6,t3,h1'];refine B8 bI3 (ih (G7 t.thn) (by omega) t.thn vt (B+F2 ai4 ags) w5.drew (ex0 _) (z7.mono (b7 hx5d) hth)) (fun w6 hx6=>⟨hx6,?_⟩);simp only[D6,m8,simprocAttr];refine B8 bI3 (ih (G7 t.els) (by omega) t.els ve (B+F2 ai4 ags+G7 t.thn) w6 (ex0 _) (z7.mono (b7 (hx5d.trans hx6)) hel)) (fun w7 hx7=>⟨hx6.trans hx7,?_⟩);simp only[D6,m8,simprocAttr];simp only[m8,n9,simprocAttr,g5,h5];exact⟨i+1,by omega,by rw[B1 i (by omega)],by rw[hB2],by omega,hx25.trans ((o6.drew w5).trans (hx6.trans hx7))⟩
  ·simp only[m8,n9,simprocAttr,h7,g6,l5,hSa,hna,h3];refine C5 (fun w'=>o6 w5.drew w') 8 (B0 [0,1,2,3,4,5,6,7]) (by decide +kernel) (o9.refl _) ?_;simp only[D6,B0,m8,n9,simprocAttr,g6,t3,h1'];refine B8 bI3 (ih (G7 t.thn) (by omega) t.thn vt (B+F2 ai4 ags) w5.drew (ex0 _) (z7.mono (b7 hx5d) hth)) (fun w6 hx6=>⟨hx6,?_⟩);simp only[D6,m8,simprocAttr];refine B8 bI3 (ih (G7 t.els) (by omega) t.els ve (B+F2 ai4 ags+G7 t.thn) w6 (ex0 _) (z7.mono (b7 (hx5d.trans hx6)) hel)) (fun w7 hx7=>⟨hx6.trans hx7,?_⟩);simp only[D6,m8,simprocAttr];simp only[m8,n9,simprocAttr,g5,h5];exact⟨i+1,by omega,by rw[B1 i (by omega)],by rw[hB2],by omega,hx25.trans ((o6.drew w5).trans (hx6.trans hx7))⟩
 rw[ex4]at hg;have hlt2:k<ags.length:=by have:=ev8 hg.1;omega
 obtain⟨_,hlow2⟩:=am7 (ev8 hg.2);have htk2:=af5 (f:=ai4) hlt2;have hsl2:=af4 cJ2 (ags.take k);rw[ew9]at hsl2;have hina:=hra.inS hlt2;have hata:=hra.at_ (i:=k) (x:=ags[k]) (ev4 hlt2);have hz6:z7.sz Ar=6:=rfl;rw[hz6]at hata;obtain⟨hagx,_,sdg⟩:=hata.ar;obtain⟨sa,hsa,_,sda⟩:=hagx.ex_v;have t4:=sdg (fun w'=>o6 w5.drew w') w5.drew (o9.refl _) fun w' h=>b7 (hx5d.trans h);have t5:=sda (fun w'=>o6 w5.drew w') w5.drew (o9.refl _) fun w' h=>b7 (hx5d.trans h);generalize ags[k]=ag at htk2 hsa t4;generalize F2 ai4 (ags.take k)=S2 at h1' htk2 hlow2 hsl2 hg;have hg1:=hg.1;have hg2:=hg.2;simp only[m8,n9,simprocAttr,h7,g6,l5,hSa,hna,hg1,hg2,h1'];refine C5 (fun w'=>o6 w5.drew w') 16 (B0 [0,1,2,3,4,5,6,7,8,9,10,11,12,13,14,15]) (by decide +kernel) (o9.refl _) ?_;simp only[D6,B0,m8,n9,y0,simprocAttr,g6,h7,t3,t4,t5,hina,h1'];refine B8 cX3 (aJ7 (S3 ag.x) ag.x sa (B+S2) w5.drew (ex0 _) (hsa.mono (b7 hx5d))) (fun w6 hx6=>⟨hx6,?_⟩);simp only[D6,m8,simprocAttr];refine D2 bt6 (R2 ag.name (B+S2+S3 ag.x) w6) ⟨hx6,?_⟩;simp only[D6,m8,simprocAttr];simp only[m8,n9,simprocAttr,h7];exact⟨k+1,by omega,by rw[B1 k (by omega)],by rw[htk2];unfold ai4;rw[←eF0,←eF0],by omega,hx5.trans ((o6.drew w5).trans hx6)⟩
theorem co9(v:Value)(p:Pg)(w:World)(hv:SV (d7 w) v p):Calls prog 8 #[v] w fun e w'=>∃u,e = .returned u∧(u = .bool (decide (D0 p≤20000))∧o6 w w'):=by
 refine d9 (args:=[v]) hm func8 rfl (by kernel_rfl) (by show 1≤_;decide +kernel) ?_;obtain⟨c,w1,hbx,hx1,hatp⟩:=V0 hv (i4 _);obtain⟨vg,vp,hvg,hvp,ldp,_⟩:=hatp.pg;have l1:=ldp w1 (i4 _);have hSp:=hvp.isS;have hnp:=hvp.vlen;have hres:∀m:Nat,J8 m=J8 (D0 p)→decide (J8 m≤20000)=decide (D0 p≤20000):=fun m e=>by
  rw[e,eA2];unfold J8;omega
 have hwp:D0 p=au5 p.globals+F2 U8 p.procs:=by unfold D0;rw[bx7]
 simp only[m8,n9,simprocAttr,hbx,l1];have h00:Value.int IntKind.i64 0 = .int .i64 (J8 0):=rfl;rw[h00];refine D2 cw7 (ae0 vg p.globals 0 w1 hvg) ?_;rw[ez0];generalize au5 p.globals=G at hwp;generalize p.procs=l at hvp hnp hwp;rw[hwp]at hres ⊢;simp only[m8,simprocAttr];refine n7 [1] (σ:=Nat) (fun i f w'=>f 4 = .int .i64 i∧f 3 = .int .i64 (J8 (G+F2 U8 (l.take i)))∧i≤l.length∧o6 w1 w') (fun i=>l.length-i) 0 (by decide +kernel) ?_ ?_
 ·simp only[p7,simprocAttr];exact⟨by trivial,by simp[F2],ew6 _,o9.refl _⟩
 rintro i f w2 hk ⟨h4,h3,hil,hx2⟩;simp only[ev6,p7,simprocAttr]at hk;obtain⟨e1,_⟩:=hk;have l2:=ldp w2 (b7 hx2);rcases ev5 (decide ((i:Int)<(l.length:Int)))with hc|hc;rotate_left
 ·have hge:i=l.length:=by have:=ew0 hc;omega
  subst hge;rw[ew7]at h3;have hr:=hres _ rfl;simp only[m8,n9,simprocAttr,h4,e1,l2,hSp,hnp,hc,h3,hr];refine n8 results8 ?_;simp only[p7,simprocAttr];exact⟨by trivial,hx1.trans hx2⟩
 have hlt:i<l.length:=by have:=ev8 hc;omega
 have hle1:=au2 (f:=U8) l i;have htk:=af5 (f:=U8) hlt;have hsl:=af4 cJ3 (l.take i);rw[ew9]at hsl;rcases ev5 (decide (J8 (G+F2 U8 (l.take i))≤20000))with h2|h2;rotate_left
 ·have h2':=ew0 h2;have e:=ae6 (m:=G+F2 U8 l) h2' (by omega);have hr:=hres _ (by rw[e.1,e.2]:J8 (G+F2 U8 (l.take i))=J8 (G+F2 U8 l));rw[hr]at h2;simp only[m8,n9,simprocAttr,h4,e1,l2,hSp,hnp,hc,h3,hr,h2];refine n8 results8 ?_;simp only[p7,simprocAttr];exact⟨by trivial,hx1.trans hx2⟩
 obtain⟨_,hlow⟩:=am7 (ev8 h2);have hin:=hvp.inS hlt;obtain⟨sv,hsv,hld⟩:=G1 (P:=prog) (t:=51) hvp (b7 hx2) (ev4 hlt) ao8 ap2 ao9 O8;rw[O8]at hld;generalize l[i]=q at hsv htk;generalize F2 U8 (l.take i)=S at h3 htk hle1 hsl h2 hlow;obtain⟨d,wz,w3,hal,hst,hx3,hat⟩:=aH7 (hsv.mono (b7 hx2)) (i4 _);have hx23:=hx2.trans hx3;obtain⟨vpa,vva,vbo,vfi,hpa,hva,hbo,hfi,ldr,sdr⟩:=hat.pr;have t1:=sdr (fun w'=>o6 w3.drew w') w3.drew (o9.refl _) fun w' h=>b7 ((o6.drew w3).trans h);simp only[m8,n9,y0,simprocAttr,h4,e1,l2,hSp,hnp,hc,h3,h2,hin,hld,hal,hst];refine C5 (fun w'=>o6 w3.drew w') 11 (B0 [0,1,2,3,4,5,6,7,8,9,10]) (by decide +kernel) (o9.refl _) ?_;simp only[D6,B0,m8,n9,simprocAttr,t1,h3];refine D2 bt6 (R2 q.name (G+S) w3.drew) ⟨o9.refl _,?_⟩;simp only[D6,m8,simprocAttr];refine D2 cw7 (ae0 vva q.vars (G+S+wtT q.name) w3.drew (z7.mono (b7 (o6.drew w3)) hva)) ⟨o9.refl _,?_⟩;simp only[D6,m8,simprocAttr];refine D2 cw7 (ae0 vfi q.fin (G+S+wtT q.name+au5 q.vars) w3.drew (z7.mono (b7 (o6.drew w3)) hfi)) ⟨o9.refl _,?_⟩;generalize hB:G+S+wtT q.name+au5 q.vars+au5 q.fin=B;have hB2:G+F2 U8 (l.take (i+1))=B+F2 (fun a:Pa=>wtT a.name) q.params+G7 q.body:=by
  rw[htk,←hB];unfold U8;rw[bx6];omega
 have hSa:=hpa.isS;have hna:=hpa.vlen;generalize q.params=pas at hpa hna hB2;simp only[D6,m8,simprocAttr];refine n7 [1,4,5] (σ:=Nat) (fun k f' w'=>f' 6 = .int .i64 k∧f' 3 = .int .i64 (J8 (B+F2 (fun a:Pa=>wtT a.name) (pas.take k)))∧k≤pas.length∧o6 w3 w') (fun k=>pas.length-k) 0 (by decide +kernel) ?_ ?_
 ·simp only[p7,simprocAttr];exact⟨by trivial,by simp[F2],ew6 _,o6.drew w3⟩
 rintro k f2 w5 hk ⟨h6,h3',hkl,hx5⟩;simp only[ev6,p7,simprocAttr]at hk;obtain⟨g1,g4,g5,_⟩:=hk;rw[h4]at g4;have l5:=ldr w5 (b7 hx5);have hx25:=hx23.trans hx5;have hle2:=au2 (f:=fun a:Pa=>wtT a.name) pas k;have hend:(decide ((k:Int)<(pas.length:Int))&&decide (J8 (B+F2 (fun a:Pa=>wtT a.name) (pas.take k))≤20000))=false→J8 (B+F2 (fun a:Pa=>wtT a.name) (pas.take k))=J8 (B+F2 (fun a:Pa=>wtT a.name) pas):=fun hg=>by
  rcases ev5 (decide ((k:Int)<(pas.length:Int)))with h|h
  ·rw[h,eC1]at hg;have e:=ae6 (m:=B+F2 (fun a:Pa=>wtT a.name) pas) (ew0 hg) (by omega);rw[e.1,e.2]
  ·have hge:k=pas.length:=by have:=ew0 h;omega
   rw[hge,ew7]
 rcases ev5 (decide ((k:Int)<(pas.length:Int)))with h7|h7;rotate_left
 ·rw[hend (by rw[h7];rfl)]at h3';simp only[m8,n9,simprocAttr,h6,g5,l5,hSa,hna,h7,h3'];refine B8 bI3 (aE7 (G7 q.body) q.body vbo (B+F2 (fun a:Pa=>wtT a.name) pas) w5 (ex0 _) (z7.mono (b7 hx5) hbo)) (fun w6 hx6=>?_);simp only[m8,n9,simprocAttr,g4];exact⟨i+1,by omega,by rw[B1 i (by omega)],by rw[hB2],by omega,hx25.trans hx6⟩
 rcases ev5 (decide (J8 (B+F2 (fun a:Pa=>wtT a.name) (pas.take k))≤20000))with h8|h8;rotate_left
 ·have he:=hend (by rw[h7,h8];rfl);rw[he]at h3' h8;simp only[m8,n9,simprocAttr,h6,g5,l5,hSa,hna,h7,h8,h3'];refine B8 bI3 (aE7 (G7 q.body) q.body vbo (B+F2 (fun a:Pa=>wtT a.name) pas) w5 (ex0 _) (z7.mono (b7 hx5) hbo)) (fun w6 hx6=>?_);simp only[m8,n9,simprocAttr,g4];exact⟨i+1,by omega,by rw[B1 i (by omega)],by rw[hB2],by omega,hx25.trans hx6⟩
 have hlt2:k<pas.length:=by have:=ev8 h7;omega
 obtain⟨_,hlow2⟩:=am7 (ev8 h8);have htk2:=af5 (f:=fun a:Pa=>wtT a.name) hlt2;have hsl2:=af4 (f:=fun a:Pa=>wtT a.name) (fun a=>aI0 _) (pas.take k);rw[ew9]at hsl2;have hina:=hpa.inS hlt2;have hata:=hpa.at_ (i:=k) (x:=pas[k]) (ev4 hlt2);have hz2:z7.sz Pa=2:=rfl;rw[hz2]at hata;obtain⟨ldpa,_⟩:=hata.pa;have l6:=ldpa w5 (b7 hx5);generalize pas[k]=pa at htk2 l6;generalize F2 (fun a:Pa=>wtT a.name) (pas.take k)=S2 at h3' htk2 hlow2 hsl2 h8;simp only[m8,n9,y0,simprocAttr,h6,g5,l5,hSa,hna,h7,h8,h3',hina,l6];refine D2 bt6 (R2 pa.name (B+S2) w5) ?_;simp only[m8,n9,simprocAttr,h6];exact⟨k+1,by omega,by rw[B1 k (by omega)],by rw[htk2,←eF0],by omega,hx5⟩
theorem cm2{α:Type}{l:List α}(h:l.Nodup){i j:Nat}(hi:i<l.length)(hj:j<l.length)(e:l[i]=l[j]):i=j:=by
 refine eF8 fun hne=>?_;have h2:=eD4.1 h;rcases Nat.lt_or_gt_of_ne hne with h|h
 ·exact h2 i j hi hj h e
 ·exact h2 j i hj hi h e.symm
theorem aw4{n:A4}(h:O6 n=true):n≠X5∧n≠M2∧n≠e0:=by
 refine⟨?_,?_,?_⟩<;>rintro rfl<;>exact absurd h (by decide)
theorem bD2:X5≠M2∧X5≠e0∧M2≠e0:=by decide
theorem bj9{p:Pg}(hm:M4 p=true){i:Nat}(hi:i<p.procs.length):∃n m,T6 p.procs[i] n=some m:=by
 unfold M4 at hm;rw[ex4]at hm;have hgo:∀(l:List Pr) (n:Int),(l.foldlM (fun n f=>T6 f n) n).isSome=true→∀f∈l,∃n m,T6 f n=some m:=by
  intro l
  induction l with
  | nil=>intro n _ f hf;simp at hf
  | cons g l ih=>
   intro n h f hf;rw[List.foldlM_cons]at h;obtain⟨k,hk⟩:=eB3.1 h;obtain⟨m,hm1,hm2⟩:=eB4.1 hk;rcases ex6.1 hf with rfl|hf
   ·exact⟨n,m,hm1⟩
   ·exact ih m (by rw[hm2];rfl) f hf
 exact hgo _ _ hm.2 _ (ew4 hi)
theorem aD5{f:Pr}{n m:Int}(h:T6 f n=some m):O6 f.name=true∧(∀a∈f.params,O6 a.name=true)∧(∀v∈f.vars,O6 v=true)∧G6 12 f.body n=some m:=by
 unfold T6 at h;split at h
 ·cases h
 ·rename_i hc;simp only[not_or,Bool.not_eq_false]at hc;refine⟨hc.2.2.1,?_,?_,h⟩
  ·have:=hc.2.2.2.2.2;rw[eE6]at this;exact this
  ·have:=hc.2.2.2.1;unfold aa2 at this;rw[eE6]at this;exact this
theorem bJ9{p:Pg}(hm:M4 p=true){i:Nat}(hi:i<p.procs.length):O6 p.procs[i].name=true∧(∀a∈p.procs[i].params,O6 a.name=true)∧(∀v∈p.procs[i].vars,O6 v=true):=by
 obtain⟨n,m,h⟩:=bj9 hm hi;obtain⟨h1,h2,h3,_⟩:=aD5 h;exact⟨h1,h2,h3⟩
theorem bJ8{p:Pg}(hm:M4 p=true):∀n∈p.globals,O6 n=true:=by
 unfold M4 at hm;simp only[ex4]at hm;have:=hm.1.2;unfold aa2 at this;rw[eE6]at this;exact this
mutual
theorem cN3:∀(t:St) (d:Nat) (n m:Int),M8 t=true→((G6 d t.thn n).bind fun m=>G6 d t.els m)=some m→∀(k:Nat) (pr up nx lp:Int),∀it∈R6 t k pr up nx lp,M8 it.s=true
 | .mk id kind labels name proc x has args thn els,d,n,m,hf,h,k,pr,up,nx,lp,it,hit=>by
  simp only[St.thn,St.els]at h;obtain⟨m1,h1,h2⟩:=eB4.1 h;rw[M9]at hit;rcases ex6.1 hit with rfl|hit
  ·exact hf
  ·rcases ew8.1 hit with hit|hit
   ·exact aO1 thn d n m1 h1 _ _ _ _ _ it hit
   ·exact aO1 els d m1 m h2 _ _ _ _ _ it hit
theorem aO1:∀(l:List St) (d:Nat) (n m:Int),G6 d l n=some m→∀(k:Nat) (pr up nx lp:Int),∀it∈C0 l k pr up nx lp,M8 it.s=true
 | [],d,n,m,h,k,pr,up,nx,lp,it,hit=>by simp[C0]at hit
 | t::l,0,n,m,h,k,pr,up,nx,lp,it,hit=>by simp[G6]at h
 | t::l,d+1,n,m,h,k,pr,up,nx,lp,it,hit=>by
  rw[ao2]at h;obtain⟨m1,h1,h2⟩:=eB4.1 h;split at h1
  ·cases h1
  ·rename_i hc;simp only[not_or,Bool.not_eq_false]at hc;rw[C0]at hit;rcases ew8.1 hit with hit|hit
   ·exact cN3 t d (n+1) m1 hc.2.2.2 h1 _ _ _ _ _ it hit
   ·exact aO1 l (d+1) m1 m h2 _ _ _ _ _ it hit
end
theorem bT7{p:Pg}(hm:M4 p=true){i:Nat}(hi:i<p.procs.length)(hw:D0 p≤1000000):∀it∈(b9 p).of i,M8 it.s=true:=by
 obtain⟨x,_,hof⟩:=T7 p hw i hi;obtain⟨n,m,h⟩:=bj9 hm hi;intro it hit;rw[hof]at hit;exact aO1 _ _ _ _ (aD5 h).2.2.2 _ _ _ _ _ it hit
theorem aY0{s:St}(h:M8 s=true):∀a∈s.args,a.ref=true→O6 a.name=true:=by
 unfold M8 at h;split at h
 ·cases h
 ·simp only[ex4]at h;have:=h.2;unfold aG0 at this;rw[eE6]at this;intro a ha hr;have:=this a ha;rw[ex4]at this;have:=this.1;unfold V6 at this;rw[hr]at this;simpa using this
theorem cx7{p:Pg}(hm:M4 p=true){it:It}(hit:it∈(b9 p).l):(b9 p).l[(it.s.id-1).toNat]?=some it∧(b9 p).it it.s.id=it∧1≤it.s.id:=by
 obtain⟨j,hj⟩:=eD3.1 hit;have h:=au0 hm j it hj;have e:(it.s.id-1).toNat=j:=by omega
 refine⟨by rw[e];exact hj,?_,by omega⟩;unfold Sh.it;rw[e,List.getD,hj];rfl
theorem bj3{p:Pg}{i x y:Nat}(pt:am4 p i x y){it:It}(hit:it∈(b9 p).of i):it∈(b9 p).l:=by
 rw[pt.ok.of_]at hit;exact eE0 (eG3 hit)
theorem bG1{p:Pg}(hm:M4 p=true)(X:Rws){it:It}(hit:it∈(b9 p).l):F5 (G9 p X) (it.s.id-1)=C7 (ab1 p X it.s):=by
 unfold F5 G9;rw[List.getD,ez2,(cx7 hm hit).1];rfl
theorem be5:∀(l out:List A4),∃t,Z5 out l=out++t
 | [],out=>⟨[],by simp[Z5]⟩
 | n::l,out=>by
  rw[Z5];obtain⟨t,e⟩:=be5 l (if out.contains n then out else out++[n]);rw[e];split
  ·exact⟨t,rfl⟩
  ·exact⟨n::t,by simp⟩
theorem bf1(g:A4→List A4):∀(m i:Nat) (out:List A4),∀x∈out,x∈S7 g m i out
 | 0,i,out,x,h=>h
 | m+1,i,out,x,h=>by
  rw[S7];split
  ·exact h
  ·exact bf1 g m (i+1) _ x ((am5 _ _ _).2 (.inl h))
theorem aI6{g:A4→List A4}{names:List A4}(hg:∀m∈names,∀x∈g m,x∈names):∀(m i:Nat) (out:List A4),out.Nodup→(∀x∈out,x∈names)→names.length+1≤i+m→i≤out.length →
  (∀k y,k<i→out[k]?=some y→∀x∈g y,x∈out)→∀y∈S7 g m i out,∀x∈g y,x∈S7 g m i out
 | 0,i,out,hn,hs,hl,hi,hc=>by
  have:=I2 hn hs;omega
 | m+1,i,out,hn,hs,hl,hi,hc=>by
  rw[S7];split
  ·rename_i h;intro y hy x hx;obtain⟨k,hk⟩:=eD3.1 hy;have:=(ev9.1 hk).1;have:=List.getElem?_eq_none_iff.1 h;exact hc k y (by omega) hk x hx
  ·rename_i n h;obtain⟨hi',hin⟩:=ev9.1 h;have hnn:n∈names:=hs n (hin ▸ ew4 hi');obtain⟨t,et⟩:=be5 (g n) out;refine aI6 hg m (i+1) _ (au7 _ _ hn) (fun x hx=>?_) (by omega) (by rw[et,ev7];omega) fun k y hk hy x hx=>?_
   ·rcases(am5 _ _ _).1 hx with hx|hx
    ·exact hs x hx
    ·exact hg n hnn x hx
   ·have hko:out[k]?=some y:=by
     rw[et,ez8 (by omega)]at hy;exact hy
    refine(am5 _ _ _).2 ?_;rcases ez4 k i with hki|hki
    ·exact .inl (hc k y hki hko x hx)
    ·obtain rfl:k=i:=by omega
     rw[h]at hko;obtain rfl:=ex1 hko;exact .inr hx
theorem be7{s:Sh}{n x:A4}:x∈ar9 s n↔x∈S7 (ac6 s) (s.p.procs.length+1) 0 [n]:=(T3 _).mem_iff
theorem bq9(s:Sh)(n:A4):n∈ar9 s n:=be7.2 (bf1 _ _ _ _ _ (by simp))
theorem aX0{p:Pg}(K:Known p){n:A4}(hn:n∈p.procs.map (·.name)):∀y∈ar9 (b9 p) n,∀x∈ac6 (b9 p) y,x∈ar9 (b9 p) n:=by
 intro y hy x hx;rw[be7]at hy ⊢;refine aI6 (names:=p.procs.map (·.name)) (fun m hm x hx=>aB0 K hm hx) _ _ _ (by simp) (fun x hx=>?_) (by rw[I5];simp) (by simp) (fun k y hk=>by omega) y hy x hx;simp only[ex9]at hx;subst hx;exact hn
theorem bP6{p:Pg}(K:Known p){n m:A4}(hn:n∈p.procs.map (·.name))(hm:m∈ar9 (b9 p) n):∀x∈ar9 (b9 p) m,x∈ar9 (b9 p) n:=by
 intro x hx;rw[be7]at hx;exact(aK5 (names:=ar9 (b9 p) n) (aX0 K hn) _ _ _ (by simp) (fun x hx=>by
  simp only[ex9]at hx;subst hx;exact hm)).2 x hx
theorem bL7{p:Pg}(h:T2 p=true):(L6 p).1=0:=by
 have h:=ev8 h;unfold aB1 at h;split at h
 ·simp at h
 split at h
 ·rename_i h1;exact absurd h h1
 ·rename_i h1;exact eF8 h1
theorem aV8{p:Pg}(h:(L6 p).1=0){n v:A4}(hn:n∈p.procs.map (·.name)):v∈N6 p n↔∃m∈ar9 (b9 p) n,∃it∈(b9 p).of ((b9 p).pr m),v∈I4 it.s∧v∈p.globals:=by
 have hk:aC9 p n=true:=by
  unfold aC9;obtain⟨q,hq,rfl⟩:=ey1.1 hn;rw[eE8 h,eC1,eH6];exact⟨q,hq,by simp⟩
 unfold N6;rw[if_pos hk];simp only[G8,ez5,ey5,ex7]
theorem cC5{p:Pg}(h:(L6 p).1=0)(K:Known p){n m v:A4}(hn:n∈p.procs.map (·.name))(hm:m∈ar9 (b9 p) n)(hmn:m∈p.procs.map (·.name))(hv:v∈N6 p m):v∈N6 p n:=by
 rw[aV8 h hmn]at hv;rw[aV8 h hn];obtain⟨q,hq,r⟩:=hv;exact⟨q,bP6 K hn hm q hq,r⟩
theorem aZ4{p:Pg}(K:Known p){i:Nat}(hi:i<p.procs.length):(b9 p).pr p.procs[i].name=(i:Int):=by
 obtain⟨k,hk,e,hn⟩:=U3 (p:=p) (n:=p.procs[i].name) (ey1.2 ⟨_,ew4 hi,rfl⟩);rw[e];have hki:k=i:=by
  have h1:(p.procs.map (·.name))[k]'(by simpa using hk)=(p.procs.map (·.name))[i]'(by simpa using hi):=by simp[hn]
  exact cm2 K.names _ _ h1
 rw[hki]
theorem bU4{p:Pg}(h:(L6 p).1=0)(hr:E2 p)(hw:D0 p≤1000000):∀(k i:Nat) (hi:i<p.procs.length) (n:A4),n∈F5 (F9 (F1 p) k (List.replicate p.procs.length [])) (i:Int)→n∈p.globals→n∈N6 p p.procs[i].name:=by
 intro k
 induction k with
 | zero=>
  intro i hi n hn _;rw[F9,aQ6 (by simpa using hi)]at hn;simp at hn
 | succ k ih=>
  intro i hi n hn hg;rw[aa1]at hn;generalize F9 (F1 p) k (List.replicate p.procs.length [])=X at ih hn;have hnm:p.procs[i].name∈p.procs.map (·.name):=ey1.2 ⟨_,ew4 hi,rfl⟩;rw[aQ6 (by unfold F1;simpa using hi)]at hn;unfold F1 at hn;rw[eD7,eI9,G8]at hn;unfold Y4 at hn;obtain⟨it,hit,hn⟩:=ez5.1 hn;have hit:=(ey5.1 hit).1;have hn:=(ey5.1 hn).1;obtain⟨x,pt⟩:=N1 hr.may hw i hi;rw[bG1 hr.may X (bj3 pt hit),G8]at hn;have hgn:=aw4 (bJ8 hr.may n hg);have hhere:n∈I4 it.s→n∈N6 p p.procs[i].name:=fun hs=>by
   rw[aV8 h hnm];exact⟨_,bq9 _ _,it,by rw[aZ4 hr.toKnown hi];exact hit,hs,hg⟩
  have hname:it.s.kind≠10→n=it.s.name→n∈I4 it.s:=fun hk e=>by
   unfold I4;rw[if_pos ⟨hk,by rw[←e];exact hgn.2.2⟩,e];simp
  unfold ab1 at hn;split at hn
  ·rename_i hk;exact hhere (hname (by omega) (by simpa using hn))
  split at hn
  ·rename_i hk;simp only[ex6,eB0,eG9]at hn;rcases hn with e|e
   ·exact hhere (hname (by omega) e)
   ·exact absurd e hgn.1
  split at hn
  ·simp only[ex9]at hn;exact absurd hn hgn.2.1
  split at hn
  ·rename_i hk;unfold aj4 at hn;rcases ew8.1 hn with hn|hn
   ·rcases ew8.1 hn with hn|hn
    ·split at hn
     ·simp at hn
     ·exact hhere (hname (by omega) (by simpa using hn))
    ·obtain⟨z,hz,rfl⟩:=ey1.1 hn;obtain⟨hz,hzr⟩:=ey5.1 hz;rw[ex4]at hzr;refine hhere ?_;unfold I4;refine eA8 _ (ez5.2 ⟨z.1,(List.of_mem_zip hz).1,?_⟩);unfold I6;rw[if_pos hzr.1];simp
   ·have hn:=(ey5.1 hn).1;obtain⟨c,hc⟩:=W0 (hr.fits it (bj3 pt hit) hk);rw[hc.idx]at hn;have hcl:=hc.lt;have hcn:p.procs[c].name=it.s.proc:=by
     obtain⟨c',hc',e1,e2⟩:=U3 (av0 hr.toKnown hw (bj3 pt hit) hk);rw[hc.pr]at e1;obtain rfl:c=c':=by omega
     exact e2
    have:=ih c hc.lt n hn hg;rw[hcn]at this;refine cC5 h hr.toKnown hnm (aX0 hr.toKnown hnm _ (bq9 _ _) _ ?_) (av0 hr.toKnown hw (bj3 pt hit) hk) this;unfold ac6;rw[G8,aZ4 hr.toKnown hi];exact ey1.2 ⟨it,ey5.2 ⟨hit,by simpa using hk⟩,rfl⟩
  ·simp at hn
theorem bK8{p:Pg}(hR:T2 p=true)(hw:D0 p≤1000000){i:Nat}(hi:i<p.procs.length){n:A4}(hn:n∈F5 (H6 p) (i:Int))(hg:n∈p.globals):n∈N6 p p.procs[i].name:=by
 obtain⟨k,e,_⟩:=bj6 (R8 hR).may;rw[e]at hn;exact bU4 (bL7 hR) (R8 hR) hw k i hi n hn hg
theorem aL8{name:A4}{touched:List A4}:∀{l:List Ar} {seen:List A4},ad8 name touched seen l=true→(∀(j:Nat) (a:Ar),l[j]?=some a→a.ref=true→a.name∉seen∧a.name≠name∧a.name∉touched) ∧
  ∀(j k:Nat) (a b:Ar),l[j]?=some a→l[k]?=some b→a.ref=true→b.ref=true→a.name=b.name→j=k
 | [],seen,_=>⟨fun j a h=>by simp at h,fun j k a b h=>by simp at h⟩
 | c::l,seen,h=>by
  rw[ad8]at h;by_cases hr:c.ref=true
  ·rw[if_pos hr]at h;split at h
   ·cases h
   ·rename_i hc;have hc:=eG1.2 hc;simp only[Bool.or_eq_false_iff,eI2]at hc;obtain⟨⟨c1,c2⟩,c3⟩:=hc;obtain⟨i1,i2⟩:=aL8 h;have hcs:c.name∉seen:=fun hm=>by rw[ex7.2 hm]at c1;cases c1
    have hct:c.name∉touched:=fun hm=>by rw[ex7.2 hm]at c3;cases c3
    refine⟨fun j a hj ha=>?_,fun j k a b hj hk ha hb e=>?_⟩
    ·cases j with
     | zero=>
      obtain rfl:c=a:=by simpa using hj
      exact⟨hcs,c2,hct⟩
     | succ j=>
      obtain⟨q1,q2⟩:=i1 j a (by simpa using hj) ha;exact⟨fun hm=>q1 (ey9 _ hm),q2⟩
    ·cases j with
     | zero=>
      obtain rfl:c=a:=by simpa using hj
      cases k with
      | zero=>rfl
      | succ k=>
       have:=(i1 k b (by simpa using hk) hb).1;exact absurd (eA8 _ (by rw[e];simp)) this
     | succ j=>
      cases k with
      | zero=>
       obtain rfl:c=b:=by simpa using hk
       have:=(i1 j a (by simpa using hj) ha).1;exact absurd (eA8 _ (by rw[e];simp)) this
      | succ k=>rw[i2 j k a b (by simpa using hj) (by simpa using hk) ha hb e]
  ·rw[if_neg hr]at h;obtain⟨i1,i2⟩:=aL8 h;refine⟨fun j a hj ha=>?_,fun j k a b hj hk ha hb e=>?_⟩
   ·cases j with
    | zero=>
     obtain rfl:c=a:=by simpa using hj
     exact absurd ha hr
    | succ j=>exact i1 j a (by simpa using hj) ha
   ·cases j with
    | zero=>
     obtain rfl:c=a:=by simpa using hj
     exact absurd ha hr
    | succ j=>
     cases k with
     | zero=>
      obtain rfl:c=b:=by simpa using hk
      exact absurd hb hr
     | succ k=>rw[i2 j k a b (by simpa using hj) (by simpa using hk) ha hb e]
theorem bk3{n:Nat}(f:Nat→List A4){i:Nat}(hi:i<n):F5 ((List.range n).map f) (i:Int)=f i:=by
 unfold F5;rw[ex8,List.getD,ez2,eE4 hi];rfl
theorem al2{l:List A4}{x:A4}:x∈S5 l↔x∈l:=(T3 l).mem_iff
section
variable {p:Pg} {i:Nat}
theorem bK9(hm:M4 p=true)(hi:i<p.procs.length):F5 (H6 p) (i:Int)=C7 (Y4 p (G9 p (H6 p)) i):=by
 obtain⟨_,_,e⟩:=bj6 hm
 conv=>lhs;rw[←e]
 exact bk3 _ hi
theorem cc0(hr:E2 p)(hw:D0 p≤1000000)(hi:i<p.procs.length):F5 (Y0 p) (i:Int)=C7 (ay6 p (H6 p) (M5 p (Y0 p)) (G9 p (H6 p)) i):=by
 obtain⟨_,_,e⟩:=cb9 hr hw
 conv=>lhs;rw[←e]
 exact bk3 _ hi
theorem aU6(hm:M4 p=true)(hi:i<p.procs.length){n:A4}(hn:n∈F5 (H6 p) (i:Int)):n=X5∨O6 n=true:=by
 rw[bK9 hm hi,G8]at hn;have:=bw2 (aP5 hn);rw[List.getD,ev4 hi]at this;simp only[ex6,ew8,ey1,eA9]at this;rcases this with h|h|⟨a,ha,rfl⟩
 ·exact .inl h
 ·exact .inr (bJ8 hm n h)
 ·exact .inr ((bJ9 hm hi).2.1 a ha)
theorem cx5(hr:E2 p)(hw:D0 p≤1000000)(hi:i<p.procs.length){n:A4}(hn:n∈F5 (Y0 p) (i:Int)):n∈p.globals∨n=X5:=by
 rw[cc0 hr hw hi,G8]at hn;unfold ay6 at hn;simpa using(ey5.1 hn).1
theorem cd5{l:List A4}(h:l.Pairwise (fun a b=>ltS a b=true)):l.Nodup:=ao0 h
theorem aM0(hi:i<p.procs.length):(p6 p).slotsIn (i:Int)=S5 (F5 (Y0 p) (i:Int)++p.procs[i].params.map (·.name)):=by
 unfold Bk.slotsIn;rw[S6 hi];rfl
theorem ba6:(p6 p).slotsOut (i:Int)=S5 (F5 (H6 p) (i:Int)++[M2]):=rfl
theorem aJ5(hr:E2 p)(hw:D0 p≤1000000)(hi:i<p.procs.length):((p6 p).slotsIn (i:Int)).Nodup:=by
 rw[aM0 hi,(T3 _).nodup_iff,eA4];obtain⟨h1,h2,_⟩:=hr.proc i hi;unfold bc4 at h1 h2;refine⟨by rw[cc0 hr hw hi];exact cd5 (Q6 _),(eA4.1 h1).1,fun a ha b hb e=>?_⟩;subst e;rcases cx5 hr hw hi ha with h|h
 ·exact h2 a (ey9 _ hb) h
 ·obtain⟨q,hq,e⟩:=ey1.1 hb;exact(aw4 ((bJ9 hr.may hi).2.1 q hq)).1 (by rw[e,h])
theorem ao6(hm:M4 p=true)(hi:i<p.procs.length):((p6 p).slotsOut (i:Int)).Nodup:=by
 rw[ba6,(T3 _).nodup_iff,eA4];refine⟨by rw[bK9 hm hi];exact cd5 (Q6 _),by simp,fun a ha b hb e=>?_⟩;subst e;simp only[ex9]at hb;rcases aU6 hm hi ha with h|h
 ·exact bD2.1 (by rw[←h,hb])
 ·exact(aw4 h).2.1 hb
theorem bM7(hm:M4 p=true):(b9 p).l.Nodup:=by
 refine eD4.2 fun j k hj hk hjk e=>?_;have h1:=au0 hm j _ (ev4 hj);have h2:=au0 hm k _ (ev4 hk);rw[e]at h1;omega
theorem cA0(hm:M4 p=true){x y:Nat}(pt:am4 p i x y):((b9 p).of i).Nodup:=by
 rw[pt.ok.of_];exact((bM7 hm).sublist (List.take_sublist _ _)).sublist (List.drop_sublist _ _)
end
theorem W5{b:Bk}{i:Int}{v:Vx}:v∈b.vert0 i↔v=⟨(b.s.fn i).name,1,0,e0⟩∨(∃n∈b.slotsIn i,v=⟨(b.s.fn i).name,3,0,n⟩)∨(∃n∈b.slotsOut i,v=⟨(b.s.fn i).name,4,0,n⟩) ∨
  ∃it∈b.s.of i,v=⟨(b.s.fn i).name,2,it.s.id,e0⟩∨(it.s.kind=4∧((∃n∈b.slotsIn (b.s.pr it.s.proc),v=⟨(b.s.fn i).name,5,it.s.id,n⟩)∨∃n∈b.callOut it.s,v=⟨(b.s.fn i).name,6,it.s.id,n⟩)):=by
 unfold Bk.vert0;simp only[ew8,ex9,ey1,ez5,List.mem_ite_nil_right];constructor
 ·rintro(((h|⟨n,hn,h⟩)|⟨n,hn,h⟩)|⟨it,hit,h|⟨h4,⟨n,hn,h⟩|⟨n,hn,h⟩⟩⟩)
  ·exact .inl h
  ·exact .inr (.inl ⟨n,hn,h.symm⟩)
  ·exact .inr (.inr (.inl ⟨n,hn,h.symm⟩))
  ·exact .inr (.inr (.inr ⟨it,hit,.inl h⟩))
  ·exact .inr (.inr (.inr ⟨it,hit,.inr ⟨h4,.inl ⟨n,hn,h.symm⟩⟩⟩))
  ·exact .inr (.inr (.inr ⟨it,hit,.inr ⟨h4,.inr ⟨n,hn,h.symm⟩⟩⟩))
 ·rintro(h|⟨n,hn,h⟩|⟨n,hn,h⟩|⟨it,hit,h|⟨h4,⟨n,hn,h⟩|⟨n,hn,h⟩⟩⟩)
  ·exact .inl (.inl (.inl h))
  ·exact .inl (.inl (.inr ⟨n,hn,h.symm⟩))
  ·exact .inl (.inr ⟨n,hn,h.symm⟩)
  ·exact .inr ⟨it,hit,.inl h⟩
  ·exact .inr ⟨it,hit,.inr ⟨h4,.inl ⟨n,hn,h.symm⟩⟩⟩
  ·exact .inr ⟨it,hit,.inr ⟨h4,.inr ⟨n,hn,h.symm⟩⟩⟩
theorem aw7{α β:Type}{f:α→β}(hf:∀a b,f a=f b→a=b){l:List α}(h:l.Nodup):(l.map f).Nodup:=by
 induction l with
 | nil=>simp
 | cons x l ih=>
  rw[eI1]at h;rw[eA3,eI1];refine⟨fun hm=>?_,ih h.2⟩;obtain⟨y,hy,e⟩:=ey1.1 hm;exact h.1 (hf _ _ e ▸ hy)
section
variable {p:Pg} {i x y:Nat}
theorem bo7(hr:E2 p){it:It}(hit:it∈(b9 p).l)(h4:it.s.kind=4):((p6 p).callOut it.s).Nodup:=by
 obtain⟨c,hc⟩:=W0 (hr.fits it hit h4);have e:(p6 p).s.pr it.s.proc=(c:Int):=hc.pr;unfold Bk.callOut;rw[e];split
 ·exact(ao6 hr.may hc.lt).sublist List.filter_sublist
 ·exact ao6 hr.may hc.lt
theorem bO5(hr:E2 p)(hw:D0 p≤1000000)(hi:i<p.procs.length)(pt:am4 p i x y):((p6 p).vert0 (i:Int)).Nodup:=by
 unfold Bk.vert0;generalize((p6 p).s.fn (i:Int)).name=q;have hs:(p6 p).s=b9 p:=rfl;rw[hs];have hid:∀it∈(b9 p).of i,1≤it.s.id∧(b9 p).it it.s.id=it:=fun it hit=>⟨(cx7 hr.may (bj3 pt hit)).2.2,(cx7 hr.may (bj3 pt hit)).2.1⟩;have hmem:∀it:It,∀v:Vx,v∈([⟨q,2,it.s.id,e0⟩]++if it.s.kind=4 then(((p6 p).slotsIn ((b9 p).pr it.s.proc)).map fun n=>(⟨q,5,it.s.id,n⟩:Vx))++((p6 p).callOut it.s).map fun n=>(⟨q,6,it.s.id,n⟩:Vx)else[])→v.id=it.s.id:=by
  intro it v hv;simp only[ew8,ex9,List.mem_ite_nil_right,ey1]at hv;rcases hv with rfl|⟨_,⟨n,_,rfl⟩|⟨n,_,rfl⟩⟩<;>rfl
 rw[eA4,eA4,eA4];refine⟨⟨⟨by simp,aw7 (fun a b h=>by simpa using h) (aJ5 hr hw hi),?_⟩,aw7 (fun a b h=>by simpa using h) (ao6 hr.may hi),?_⟩,?_,?_⟩
 ·rintro a ha b hb rfl;simp only[ex9,ey1]at ha hb;obtain⟨n,_,e⟩:=hb;rw[ha]at e;simp at e
 ·rintro a ha b hb rfl;simp only[ew8,ex9,ey1]at ha hb;obtain⟨n,_,e⟩:=hb;rcases ha with ha|⟨m,_,ha⟩
  ·rw[ha]at e;simp at e
  ·rw[←ha]at e;simp at e
 ·refine an7 (cA0 hr.may pt) (fun it hit=>?_) fun a ha b hb v hva hvb=>?_
  ·rw[eA4];refine⟨by simp,?_,?_⟩
   ·split
    ·rename_i h4;obtain⟨c,hc⟩:=W0 (hr.fits it (bj3 pt hit) h4);rw[eA4];refine⟨aw7 (fun a b h=>by simpa using h) ?_,aw7 (fun a b h=>by simpa using h) (bo7 hr (bj3 pt hit) h4),?_⟩
     ·rw[hc.pr];exact aJ5 hr hw hc.lt
     ·rintro a ha b hb rfl;simp only[ey1]at ha hb;obtain⟨n,_,e⟩:=ha;obtain⟨m,_,e2⟩:=hb;rw[←e]at e2;simp at e2
    ·simp
   ·rintro a ha b hb rfl;simp only[ex9,List.mem_ite_nil_right,ew8,ey1]at ha hb;subst ha;obtain⟨_,⟨n,_,e⟩|⟨n,_,e⟩⟩:=hb<;>simp at e
  ·have h1:=hmem a v hva;have h2:=hmem b v hvb;rw[←(hid a ha).2,←(hid b hb).2,←h1,←h2]
 ·rintro a ha b hb rfl;obtain⟨it,hit,hv⟩:=ez5.1 hb;have h1:=hmem it a hv;have h2:=(hid it hit).1;simp only[ew8,ex9,ey1]at ha;rcases ha with(ha|⟨n,_,ha⟩)|⟨n,_,ha⟩
  ·rw[ha]at h1;simp only at h1;omega
  ·rw[←ha]at h1;simp only at h1;omega
  ·rw[←ha]at h1;simp only at h1;omega
theorem aH4(hm:M4 p=true)(pt:am4 p i x y){d:Int}(h1:(x:Int)<d)(h2:d≤(y:Int)):(⟨((p6 p).s.fn (i:Int)).name,2,d,e0⟩:Vx)∈(p6 p).vert0 (i:Int):=by
 rw[W5];obtain⟨q1,q2,_⟩:=pt.at_ d h1 h2;exact .inr (.inr (.inr ⟨_,q1,.inl (by rw[q2])⟩))
theorem bf7{wy:Wy}(hr:E2 p)(hw:D0 p≤1000000)(hi:i<p.procs.length)(hok:ae1 p i x y wy):∀d∈wy.decides,(d.1=0∨((x:Int)<d.1∧d.1≤(y:Int)))∧((x:Int)<d.2∧d.2≤(y:Int)):=by
 have hn:=hok.n;have B3:=hok.part.ok.le;have hM:wy.n=((y-x+2:Nat):Int):=by omega
 rw[av1 hM];intro d hd;obtain⟨a,ha,hd⟩:=ez5.1 hd;obtain⟨b,hb,rfl⟩:=ey1.1 hd;obtain⟨hb,hdec⟩:=ey5.1 hb;unfold ac1 at hdec;simp only[ex4,ez1,eH6]at hdec;obtain⟨⟨b1,b2⟩,t,ht,e,_⟩:=hdec;have hsrc:(a:Int)<wy.n-1:=by
  unfold Wy.pairs at ht;obtain⟨s,hs,rfl⟩:=ey1.1 ht;have hrg:=(by5 hr hw hi hok s hs).1;simp only at e;rw[←e,hok.toWyOk.index];rcases hrg with h|⟨h1,h2⟩
  ·rw[if_pos h];omega
  ·rw[if_neg (by omega),if_neg (by omega),if_pos (by omega)];omega
 simp only;rw[hok.toWyOk.place,hok.toWyOk.place];constructor
 ·by_cases h0:(a:Int)=0
  ·rw[if_pos h0];exact .inl rfl
  ·rw[if_neg h0,if_neg (by omega)];right;omega
 ·rw[if_neg (by omega),if_neg (by omega)];omega
theorem aI8(hr:E2 p){it:It}(hit:it∈(b9 p).l)(h4:it.s.kind=4){c:Nat}(hc:aA0 p it.s c){n:A4}(hn:n∈F5 (H6 p) (c:Int)):n∈(p6 p).callOut it.s:=by
 have e:(p6 p).s.pr it.s.proc=(c:Int):=hc.pr;unfold Bk.callOut;rw[e];have hm:n∈(p6 p).slotsOut (c:Int):=by
  rw[ba6,al2];exact ey9 _ hn
 have hne:n≠M2:=by
  rcases aU6 hr.may hc.lt hn with h|h
  ·rw[h];exact bD2.1
  ·exact(aw4 h).2.1
 split
 ·exact ey5.2 ⟨hm,by simp[hne]⟩
 ·exact hm
theorem cf3{α β:Type}{l:List α}{m:List β}{z:α×β}(h:z∈l.zip m):∃j:Nat,l[j]?=some z.1∧m[j]?=some z.2:=by
 obtain⟨j,hj⟩:=eD3.1 h;rw[List.getElem?_zip_eq_some]at hj;exact⟨j,hj⟩
theorem cu3(hR:T2 p=true)(hw:D0 p≤1000000)(hi:i<p.procs.length)(pt:am4 p i x y){a:Nat}(ha:(a:Int)<(D5 (b9 p) i).n){n:A4}(hg:n∈(p6 p).gives (i:Int) (a:Int)):
  (p6 p).giver ((p6 p).s.fn (i:Int)).name ((D5 (b9 p) i).place (a:Int)) n∈(p6 p).vert0 (i:Int):=by
 have hr:=R8 hR;have hok:=P3 pt;have hs:(p6 p).s=b9 p:=rfl;unfold Bk.gives at hg;rw[K8 hi]at hg;unfold Bk.giver;by_cases h0:(a:Int)=0
 ·rw[if_pos h0,G8]at hg;rw[if_pos (by rw[hok.toWyOk.place,if_pos h0]),W5];refine .inr (.inl ⟨n,?_,rfl⟩);unfold Bk.slotsIn;rw[al2];exact hg
 ·rw[if_neg h0]at hg;split at hg
  ·simp at hg
  ·rename_i hc;have hc1:¬(a:Int)=(D5 (b9 p) i).n-1:=fun h=>hc (.inl h);obtain⟨q,e1,e2,e3,e4,e5⟩:=af1 hok (k:=a) (by omega) (by omega);obtain⟨q1,q2,q3⟩:=pt.at_ ((D5 (b9 p) i).place (a:Int)) (by rw[e3];omega) (by rw[e3];omega);rw[if_neg (by omega),hs];generalize hpl:(D5 (b9 p) i).place (a:Int)=pl at hg e1 e3 q1 q2 q3;generalize hit':(b9 p).it pl=it at q1 q2 q3;have hit:=bj3 pt q1;have hgd:n∈C7 (ab1 p (H6 p) it.s):=by
    rw[←bG1 hr.may (H6 p) hit,q2];exact hg
   rw[G8]at hgd;have hfl:=bT7 hr.may hi hw it q1;by_cases h4:it.s.kind=4
   ·rw[if_neg (by simpa using h4)];obtain⟨c,hcall⟩:=W0 (hr.fits it hit h4);have hcl:=hcall.lt;have hcallee:((p6 p).callee it.s).params=p.procs[c].params:=by
     unfold Bk.callee;rw[hs,hcall.pr,←hs,S6 hcall.lt]
    have hsing:=aL8 (show ad8 it.s.name (N6 p it.s.proc) [] it.s.args=true from hr.single it hit h4);have hcn:p.procs[c].name=it.s.proc:=by
     obtain⟨c',hc',e1,e2⟩:=U3 (av0 hr.toKnown hw hit h4);rw[hcall.pr]at e1;obtain rfl:c=c':=by omega
     exact e2
    have hput:∀m,m∈(p6 p).callOut it.s→(⟨((b9 p).fn (i:Int)).name,6,pl,m⟩:Vx)∈(p6 p).vert0 (i:Int):=fun m hm=>by
     rw[W5];exact .inr (.inr (.inr ⟨it,q1,.inr ⟨h4,.inr ⟨m,hm,by rw[q2,hs]⟩⟩⟩))
    unfold ab1 at hgd;rw[if_neg (by omega),if_neg (by omega),if_neg (by omega),if_pos h4]at hgd;unfold aj4 at hgd;rw[hcall.idx,hcall.fn]at hgd;by_cases hname:it.s.name=n
    ·rw[if_pos hname];refine hput _ ?_;have hne:it.s.name≠e0:=by
      intro he;rw[hname]at he;rcases ew8.1 hgd with h|h
      ·rcases ew8.1 h with h|h
       ·rw[hname,if_pos he]at h;simp at h
       ·obtain⟨z,hz,hzn⟩:=ey1.1 h;obtain⟨hz,hzr⟩:=ey5.1 hz;rw[ex4]at hzr;exact(aw4 (aY0 hfl z.1 (List.of_mem_zip hz).1 hzr.1)).2.2 (by rw[hzn,he])
      ·have:=(ey5.1 h).1;rcases aU6 hr.may hcall.lt this with h|h
       ·exact bD2.2.1 (by rw[←h,he])
       ·exact(aw4 h).2.2 he
     unfold Bk.callOut;rw[if_neg hne];unfold Bk.slotsOut;rw[al2];simp
    ·rw[if_neg hname,hcallee];have hgd:(∃z∈it.s.args.zip p.procs[c].params,z.1.ref=true∧z.2.name∈F5 (H6 p) (c:Int)∧z.1.name=n)∨(n∈F5 (H6 p) (c:Int)∧M7 p n=true):=by
      rcases ew8.1 hgd with h|h
      ·rcases ew8.1 h with h|h
       ·split at h
        ·simp at h
        ·simp only[ex9]at h;exact absurd h.symm hname
       ·obtain⟨z,hz,hzn⟩:=ey1.1 h;obtain⟨hz,hzr⟩:=ey5.1 hz;rw[ex4,ex7]at hzr;exact .inl ⟨z,hz,hzr.1,hzr.2,hzn⟩
      ·exact .inr (ey5.1 h)
     split
     ·rename_i z hf;have hz:=List.mem_of_find?_eq_some hf;have hzp:=List.find?_some hf;rw[ex4,ez1]at hzp;refine hput _ ?_;obtain⟨j,hj1,hj2⟩:=cf3 hz;rcases hgd with⟨z',hz',r1,r2,r3⟩|⟨h1,h2⟩
      ·obtain⟨k,hk1,hk2⟩:=cf3 hz';have hjk:=hsing.2 j k _ _ hj1 hk1 hzp.1 r1 (by rw[hzp.2,r3]);subst hjk;rw[hj2]at hk2;rw[ex1 hk2];exact aI8 hr hit h4 hcall r2
      ·exfalso
       have hnm:=aY0 hfl z.1 (List.of_mem_zip hz).1 hzp.1;rw[hzp.2]at hnm;unfold M7 at h2;rw[eH5,ex7,ez1]at h2;rcases h2 with h2|h2
       ·exact(aw4 hnm).1 h2
       ·have:=(hsing.1 j _ hj1 hzp.1).2.2;rw[hzp.2,←hcn]at this;exact this (bK8 hR hw hcall.lt h1 h2)
     ·rename_i hf;refine hput _ ?_;rcases hgd with⟨z',hz',r1,r2,r3⟩|⟨h1,h2⟩
      ·have:=eF3.1 hf z' hz';simp[r1,r3]at this
      ·exact aI8 hr hit h4 hcall h1
   ·rw[if_pos h4,←hs];exact aH4 hr.may pt (by rw[e3];omega) (by rw[e3];omega)
theorem cn9(hR:T2 p=true)(hw:D0 p≤1000000)(hi:i<p.procs.length)(pt:am4 p i x y){a:Nat}(ha:(a:Int)<(D5 (b9 p) i).n){n:A4}(hg:n∈(p6 p).takes (i:Int) (a:Int)):
  ∀v∈(p6 p).takers ((p6 p).s.fn (i:Int)).name ((D5 (b9 p) i).place (a:Int)) n,v∈(p6 p).vert0 (i:Int):=by
 have hr:=R8 hR;have hok:=P3 pt;have hs:(p6 p).s=b9 p:=rfl;have hn2:=hok.n;have B3:=pt.ok.le;intro v hv;unfold Bk.takes at hg;rw[K8 hi]at hg;unfold Bk.takers at hv;by_cases h0:(a:Int)=(D5 (b9 p) i).n-1
 ·rw[if_pos h0,G8]at hg;rw[if_pos (by rw[hok.toWyOk.place,if_neg (by omega),if_pos h0])]at hv;simp only[ex9]at hv;subst hv;rw[W5];refine .inr (.inr (.inl ⟨n,?_,rfl⟩));unfold Bk.slotsOut;rw[al2];exact hg
 ·rw[if_neg h0]at hg;split at hg
  ·simp at hg
  ·rename_i hc;have hc1:¬(a:Int)=0:=fun h=>hc (.inl h);obtain⟨q,e1,e2,e3,e4,e5⟩:=af1 hok (k:=a) (by omega) (by omega);obtain⟨q1,q2,q3⟩:=pt.at_ ((D5 (b9 p) i).place (a:Int)) (by rw[e3];omega) (by rw[e3];omega);rw[if_neg (by omega),hs]at hv;generalize hpl:(D5 (b9 p) i).place (a:Int)=pl at hv hg e1 e3 q1 q2 q3;generalize hit':(b9 p).it pl=it at hv q1 q2 q3;have hit:=bj3 pt q1;by_cases h4:it.s.kind=4
   ·rw[if_neg (by simpa using h4)]at hv;obtain⟨c,hcall⟩:=W0 (hr.fits it hit h4);have hcl:=hcall.lt;have hcallee:((p6 p).callee it.s).params=p.procs[c].params:=by
     unfold Bk.callee;rw[hs,hcall.pr,←hs,S6 hcall.lt]
    have hput:∀m,m∈(p6 p).slotsIn (c:Int)→(⟨((b9 p).fn (i:Int)).name,5,pl,m⟩:Vx)∈(p6 p).vert0 (i:Int):=fun m hm=>by
     rw[W5];refine .inr (.inr (.inr ⟨it,q1,.inr ⟨h4,.inl ⟨m,?_,by rw[q2,hs]⟩⟩⟩));rw[hs,hcall.pr];exact hm
    rw[hcallee,hcall.pr]at hv;rcases ew8.1 hv with h|h
    ·obtain⟨z,hz,rfl⟩:=ey1.1 h;refine hput _ ?_;rw[aM0 hcall.lt,al2];exact eA8 _ (ey1.2 ⟨_,(List.of_mem_zip (ey5.1 hz).1).2,rfl⟩)
    ·split at h
     ·rename_i h5;simp only[ex9]at h;subst h;refine hput _ ?_;rw[ex4,ex7]at h5;rw[aM0 hcall.lt,al2];exact ey9 _ h5.2
     ·simp at h
   ·rw[if_pos h4]at hv;simp only[ex9]at hv;subst hv;rw[←hs];exact aH4 hr.may pt (by rw[e3];omega) (by rw[e3];omega)
theorem ct1(hR:T2 p=true)(hw:D0 p≤1000000)(hi:i<p.procs.length):∀e∈(p6 p).edge0 (i:Int),e.src∈(p6 p).vert0 (i:Int)∧e.dst∈(p6 p).vert0 (i:Int)∧(e.kind=1∨e.kind=2):=by
 have hr:=R8 hR;obtain⟨x,pt⟩:=N1 hr.may hw i hi;have hok:=P3 pt;have hent:(⟨((p6 p).s.fn (i:Int)).name,1,0,e0⟩:Vx)∈(p6 p).vert0 (i:Int):=W5.2 (.inl rfl);intro e he;unfold Bk.edge0 at he;rw[K8 hi]at he;rcases ew8.1 he with he|he
 ·rcases ew8.1 he with he|he
  ·obtain⟨d,hd,rfl⟩:=ey1.1 he;obtain⟨h1,h2,h3⟩:=bf7 hr hw hi hok d hd;unfold U6;refine⟨?_,aH4 hr.may pt h2 h3,.inl rfl⟩;simp only;split
   ·exact hent
   ·rename_i hne;rcases h1 with h1|⟨h1,h1'⟩
    ·exact absurd h1 hne
    ·exact aH4 hr.may pt h1 h1'
  ·obtain⟨v,hv,he⟩:=ez5.1 he;have hv:v∈(p6 p).vert0 (i:Int):=(F6 _ _).mem_iff.1 hv;unfold E5 at he;split at he
   ·simp only[ex9]at he;subst he;exact⟨hent,hv,.inl rfl⟩
   ·split at he
    ·rename_i hk;simp only[ex9]at he;subst he;refine⟨?_,hv,.inl rfl⟩;simp only;rw[W5]at hv;rcases hv with rfl|⟨n,_,rfl⟩|⟨n,_,rfl⟩|⟨it,hit,rfl|⟨_,⟨n,_,rfl⟩|⟨n,_,rfl⟩⟩⟩
     ·simp at hk
     ·simp at hk
     ·simp at hk
     ·simp at hk
     ·have:=pt.ids it hit;exact aH4 hr.may pt this.1 this.2
     ·have:=pt.ids it hit;exact aH4 hr.may pt this.1 this.2
    ·simp at he
 ·obtain⟨f,hf,he⟩:=ez5.1 he;obtain⟨v,hv,rfl⟩:=ey1.1 he;have hf:f∈(p6 p).flow0 (i:Int):=(F6 _ _).mem_iff.1 hf;rw[aG5]at hf;obtain⟨n,hf⟩:=hf;rw[W4]at hf;obtain⟨a,c,ha,hc,ht,_,rfl⟩:=hf;rw[K8 hi]at hc hv;have hal:=ab4 _ _ _ a ha;rw[K8 hi]at hal;have ha:=(ey5.1 ha).2;rw[ex7]at ha ht;have hn:=hok.n;rw[K8 hi];exact⟨cu3 hR hw hi pt (by omega) ha,cn9 hR hw hi pt (by omega) ht v hv,.inr rfl⟩
end
def cY0(a b:Vx):Bool:=if a.proc≠b.proc then ltS a.proc b.proc else if a.kind≠b.kind then decide (a.kind<b.kind)else if a.id≠b.id then decide (a.id<b.id)else ltS a.slot b.slot
theorem bu7{b:Bk}{i:Int}{e:Eg}:e∈b.edges i↔e∈b.edge0 i:=by
 unfold Bk.edges bm0;rw[aF5,(F6 cM5 _).mem_iff]
section
variable {p:Pg} {i:Nat}
def Mid(p:Pg)(a:Int):Prop:=∃j:Nat,a=(j:Int)+1∧j<(b9 p).l.length
theorem aY4(hr:E2 p)(hw:D0 p≤1000000)(hi:i<p.procs.length){f:Fw}(hf:f∈(p6 p).flows (i:Int)):(f.src=0∨Mid p f.src)∧(f.dst = -1∨Mid p f.dst):=by
 obtain⟨x,pt⟩:=N1 hr.may hw i hi;have hok:=P3 pt;have hn:=hok.n;have hf:f∈(p6 p).flow0 (i:Int):=(F6 _ _).mem_iff.1 hf;rw[aG5]at hf;obtain⟨n,hf⟩:=hf;rw[W4]at hf;obtain⟨a,c,ha,hc,ht,_,rfl⟩:=hf;have hal:=ab4 _ _ _ a ha;have ha:=(ey5.1 ha).2;rw[ex7]at ha ht;unfold Bk.gives at ha;unfold Bk.takes at ht;simp only[K8 hi]at ha ht hal hc ⊢;have hmid:∀k:Nat,k≠0→(k:Int)<(D5 (b9 p) i).n-1→Mid p ((D5 (b9 p) i).place (k:Int)):=fun k h0 hk=>by
  obtain⟨q,_,h2,h3,_⟩:=af1 hok h0 hk;exact⟨q,h3,h2⟩
 constructor
 ·by_cases h0:(a:Int)=0
  ·left;rw[hok.toWyOk.place,if_pos h0]
  ·right;rw[if_neg h0]at ha;split at ha
   ·simp at ha
   ·rename_i hc';have:¬(a:Int)=(D5 (b9 p) i).n-1:=fun h=>hc' (.inl h);exact hmid a (by omega) (by omega)
 ·by_cases h0:(c:Int)=(D5 (b9 p) i).n-1
  ·left;rw[hok.toWyOk.place,if_neg (by omega),if_pos h0]
  ·right;rw[if_neg h0]at ht;split at ht
   ·simp at ht
   ·rename_i hc';have:¬(c:Int)=0:=fun h=>hc' (.inl h);exact hmid c (by omega) (by omega)
theorem bx1(hr:E2 p)(hw:D0 p≤1000000)(hi:i<p.procs.length):∃M:Nat,(D5 (b9 p) i).n=(M:Int)∧M≤202:=by
 obtain⟨x,pt⟩:=N1 hr.may hw i hi;have hn:=(P3 pt).n;have hlen:=pt.ok.len;have:=J4 hr.may;exact⟨(D5 (b9 p) i).n.toNat,by omega,by omega⟩
theorem bs9(hr:E2 p)(hw:D0 p≤1000000)(hi:i<p.procs.length):((p6 p).flows (i:Int)).length≤5000000:=by
 obtain⟨M,hM,hM2⟩:=bx1 hr hw hi;have e:((p6 p).flows (i:Int)).length=((p6 p).flow0 (i:Int)).length:=(F6 bp4 _).length_eq;rw[e];unfold Bk.flow0;rw[K8 hi,hM,ex8];refine ew2 (Q9 _ 20200 _ fun a ha=>?_) ?_
 ·have ha:=ez3.1 ha;have hg:=(aL1 hr hw hi (k:=a) (by rw[hM];exact Int.ofNat_lt.2 ha)).2;refine ew2 (Q9 _ 202 _ fun n hn=>?_) ?_
  ·rw[ew5];refine ew2 (ey4 _ _) ?_;rw[eB2];exact hM2
  ·omega
 ·rw[eB2];omega
theorem aM3(hr:E2 p)(hw:D0 p≤1000000){q:A4}{pl:Int}{n:A4}(hpl:pl = -1∨Mid p pl):((p6 p).takers q pl n).length≤9:=by
 unfold Bk.takers;split
 ·simp
 ·rename_i h1;obtain⟨j,rfl,hj⟩:=hpl.resolve_left h1;have hs:(p6 p).s=b9 p:=rfl;have hite:(b9 p).it ((j:Int)+1)=(b9 p).l[j]:=by
   unfold Sh.it;rw[show((j:Int)+1-1).toNat=j by omega,List.getD,ev4 hj];rfl
  split
  ·simp
  ·rename_i h4;rw[hs,hite]at h4 ⊢;have h4:((b9 p).l[j]).s.kind=4:=by simpa using h4
   obtain⟨c,hc⟩:=W0 (hr.fits _ (ew4 hj) h4);have h8:=O7 hr.may hc.lt;have hl:=hc.len;rw[ev7,ew5];have h2:((((b9 p).l[j]).s.args.zip ((p6 p).callee ((b9 p).l[j]).s).params).filter fun x=>(V1 x.1).contains n).length≤8:=by
    refine ew2 (ey4 _ _) ?_;rw[List.length_zip];omega
   split<;>simp only[ey6,eC2]<;>omega
theorem aX4(hr:E2 p)(hw:D0 p≤1000000)(hi:i<p.procs.length):((D5 (b9 p) i).decides).length≤41000:=by
 obtain⟨M,hM,hM2⟩:=bx1 hr hw hi;rw[av1 hM];refine ew2 (Q9 _ 202 _ fun a ha=>?_) ?_
 ·rw[ew5];refine ew2 (ey4 _ _) ?_;rw[eB2];exact hM2
 ·rw[eB2];omega
theorem bw9(hr:E2 p)(hw:D0 p≤1000000)(hi:i<p.procs.length):((p6 p).verts (i:Int)).length≤30000:=by
 obtain⟨x,pt⟩:=N1 hr.may hw i hi;have h200:=J4 hr.may;have e:((p6 p).verts (i:Int)).length=((p6 p).vert0 (i:Int)).length:=(F6 cJ1 _).length_eq;have h1:=ah5 hr hw hi;have h2:=ak0 hr hi;have h3:(((b9 p).of i).flatMap (Q7 p p.procs[i].name)).length≤((b9 p).of i).length*100:=Q9 _ 100 _ fun it hit=>aE6 hr hw _ (cz9 pt hit);have h4:((b9 p).of i).length≤200:=by
  rw[pt.ok.of_,eD0,ew9];omega
 have hF:(p6 p).vert0 (i:Int)=([(⟨p.procs[i].name,1,0,e0⟩:Vx)]++((p6 p).slotsIn (i:Int)).map fun n=>(⟨p.procs[i].name,3,0,n⟩:Vx))++(((p6 p).slotsOut (i:Int)).map fun n=>(⟨p.procs[i].name,4,0,n⟩:Vx))++((b9 p).of i).flatMap (Q7 p p.procs[i].name):=by
  unfold Bk.vert0;rw[S6 hi];rfl
 rw[e,hF];simp only[ev7,ey6,ew5];omega
end
theorem dF2:ag2 prog 39=true:=by kernel_rfl
theorem er5:ag2 prog 47=true:=by kernel_rfl
theorem er9:ag2 prog 61=true:=by kernel_rfl
theorem bI5:ag2 prog 62=true:=by kernel_rfl
theorem es0:ag2 prog 63=true:=by kernel_rfl
theorem es1:ag2 prog 64=true:=by kernel_rfl
theorem es2:ag2 prog 65=true:=by kernel_rfl
theorem cO5{w w1 w2:World}(hw1:w.heap.size<w1.heap.size){α:Type}[z7 α][A0 α]{T:TypeId}{u:Value}{l:List α}(ho:A8 (d7 w1) w2 T u l):R (B4 w2 (nP w.heap.size (.slice none 0 0))) u l:=
 ho.flatRN fun b hb=>D3 fun h=>by
  have:=C6 (ho.free hb);rcases h with h|h|h|h
  ·omega
  ·exact absurd h D1
  ·exact absurd h D1
  ·exact h.elim
theorem aR2(q:A4)(v:Vx):(E5 q v).length≤1:=by
 unfold E5;split
 ·simp
 ·split<;>simp
theorem dG6(w:World)(y:Vx):∃wz,(Instr.alloc 36 true (.tuple #[])).run prog w = .ok (.pointer (some ⟨w.heap.size,0,none⟩)) wz ∧
  (Instr.storeAt 36 (.pointer (some ⟨w.heap.size,0,none⟩)) (.agg (A0.cells y).toArray)).run prog wz = .ok () (w.alloc (.cells (A0.cells y).toArray 36)):=by
 have h:=aU2 (P:=prog) (w:=w) (T:=36) bw8 rfl (cs:=(A0.cells y).toArray) (by rw[V8];rfl) (fun u hu=>ak7 y u (by simpa using hu));exact⟨_,h.1,h.2⟩
theorem em5{w:World}{c:Nat}{y:Vx}(hc:w.heap[c]?=some (.cells (A0.cells y).toArray 36 (0,0)))(z:Vx):∃w',(Instr.storeAt 36 (.pointer (some ⟨c,0,none⟩)) (.agg (A0.cells z).toArray)).run prog w = .ok () w'∧w'.heap[c]?=some (.cells (A0.cells z).toArray 36 (0,0))∧o9 (fun b=>b=c) w w':=
 ap8 (P:=prog) (T:=36) hc bw8 (by rw[V8];rfl) (by rw[V8];rfl) (fun u hu=>ak7 z u (by simpa using hu))
theorem ek0{w:World}{c:Nat}{y:Vx}(hc:w.heap[c]?=some (.cells (A0.cells y).toArray 36 (0,0))):(Instr.loadAt 36 (.pointer (some ⟨c,0,none⟩))).run prog w = .ok (.agg (A0.cells y).toArray) w:=
 ac4 hc az4 az7 az5 (by rw[V8];rfl)
theorem cf6(a:Addr)(p:Pg)(i:Nat)(w:World)(ha:At (d7 w) a (p6 p))(hr:E2 p)(hw:D0 p≤1000000)(hi:i<p.procs.length):
  Calls prog 40 #[.pointer (some a),.int .i64 i] w fun e w'=>∃u,e = .returned u∧(A8 (d7 w) w' 60 u ((p6 p).edges (i:Int))∧o6 w w'):=by
 refine d9 (args:=[.pointer (some a),.int .i64 i]) hm func40 rfl (by kernel_rfl) (by show 2≤_;decide +kernel) ?_;obtain⟨x,pt⟩:=N1 hr.may hw i hi;have hwy:=P3 pt;obtain⟨sh,vw,vd,_,vi,vo,has,hvw,hvd,_,hvi,hvo,ldb,sdb⟩:=ha.book rfl;obtain⟨_,_,_,_,_,_,hpg,_,_⟩:=has.sh;rw[I5]at hpg;obtain⟨vg,vp,hvg,hvp,ldp,sdp⟩:=hpg.pg;obtain⟨aw,hcw,haw⟩:=aw9 (hv:=hvw) (k:=i) (p:=⟨D5 (b9 p) i⟩) (by show((J2 p).map fun w=>(⟨w⟩:Ptr Wy))[i]?=_;rw[ez2,V9 hi];rfl);simp only at haw;have hinw:=hvw.inS (k:=i) (by show i<((J2 p).map fun w=>(⟨w⟩:Ptr Wy)).length;unfold J2;simpa using hi);have lb:=ldb w (i4 _);have lp:=ldp w (i4 _);have hF:(p6 p).edge0 (i:Int)=(D5 (b9 p) i).decides.map (U6 p.procs[i].name)++((p6 p).verts (i:Int)).flatMap (E5 p.procs[i].name)++((p6 p).flows (i:Int)).flatMap fun f=>((p6 p).takers p.procs[i].name f.dst f.var).map fun v=>(⟨(p6 p).giver p.procs[i].name f.src f.var,v,2⟩:Eg):=by
  unfold Bk.edge0;rw[S6 hi,K8 hi]
 have hn1:=aX4 hr hw hi;have hn2:=bw9 hr hw hi;have hn3:=bs9 hr hw hi;have hfp:∀f∈(p6 p).flows (i:Int),(f.src=0∨Mid p f.src)∧(f.dst = -1∨Mid p f.dst):=fun f hf=>aY4 hr hw hi hf;have hin:=hvp.inS hi;obtain⟨sv,hsv,hld⟩:=G1 (P:=prog) (t:=51) hvp (i4 _) (ev4 hi) ao8 ap2 ao9 O8;rw[O8]at hld;obtain⟨cs,rfl,c1,c2,c3,c4,rfl,_⟩:=hsv;generalize p.procs[i].name=q at hF hld;have hbp:=bF4 a (i:Int) q c1 c2 c3 c4;have hbx:(Instr.box 116 (.agg (H2 a i q c1 c2 c3 c4 (.slice none 0 0) (.slice none 0 0)))).run prog w = .ok (.pointer (some ⟨w.heap.size,0,none⟩)) (w.alloc (.cells (H2 a i q c1 c2 c3 c4 (.slice none 0 0) (.slice none 0 0)) 116)):=rfl;have hse:Value.string {data:=#[]}=o7 e0:=rfl;simp only[m8,n9,y0,simprocAttr,lb,lp,hin,hld,hbp,hbx,hse];have hxa:=o6.alloc w (.cells (H2 a i q c1 c2 c3 c4 (.slice none 0 0) (.slice none 0 0)) 116);have hsz1:w.heap.size<(w.alloc (.cells (H2 a i q c1 c2 c3 c4 (.slice none 0 0) (.slice none 0 0)) 116)).heap.size:=by simp
 have hb1:=ez9 w (.cells (H2 a i q c1 c2 c3 c4 (.slice none 0 0) (.slice none 0 0)) 116);generalize hw1:w.alloc (.cells (H2 a i q c1 c2 c3 c4 (.slice none 0 0) (.slice none 0 0)) 116)=w1 at hxa hsz1 hb1;refine B8 aj0 (H9 w.heap.size _ _ q 1 0 e0 w1 hb1 rfl) (fun w2 hx2=>?_);obtain⟨de,wz,w4,hal4,hst4,hx4,hat4⟩:=bD9 (w:=w2) (nP w.heap.size (.slice none 0 0)) (SV.ofN (d7 w2) ⟨q,1,0,e0⟩) fun b hb=>by
  have:=hx2.size;rcases hb with h|h|h|h
  ·omega
  ·exact absurd h D1
  ·exact absurd h D1
  ·exact h.elim
 have hx14:=hx2.trans hx4;have hx04:=hxa.trans hx14;have lb4:=ldb w4 (b7 hx04);have hlw:=G5 (P:=prog) (t:=126) hcw (b7 hx04) ar3;simp only[m8,n9,y0,simprocAttr,hal4,hst4,lb4,hinw,hlw];refine y5 er9 (bE5 aw _ p i x _ w4 (haw.mono (b7 hx04)) hr hw hi hwy) ?_;rintro ud w5 ⟨hod,hx5⟩;have hx05:=hx04.trans hx5;have hud:=cO5 (eC6 hsz1 hx14.size) hod;have hat5:=hat4.mono (H1 (N':=nP w.heap.size (.slice none 0 0)) hx5 (fun _ h=>h.elim) fun b h=>.inl h);have hx15:=hx14.trans hx5;rw[←hw1]at hx15;have s5:=(PV.new a i q c1 c2 c3 c4 hx15).2;have hb0:=cd1 hx05;generalize hgb:w.heap.size=gb at s5 hud hat5 hb0;generalize hH0:B4 w5 (nP gb (.slice none 0 0))=H0 at s5 hud hat5 hb0;obtain⟨ldE,_⟩:=J7.vx_v (SV.ofN (d7 w2) (⟨q,1,0,Go.Proofs.YtcbnbgpphippoaaGreat.e0⟩:Vx)) hat5;generalize(D5 (b9 p) i).decides=D at hF hn1 hud;have hSd:=hud.isS;have hnd:=hud.vlen;clear hin hld;simp only[m8,n9,simprocAttr,hSd,hnd];refine n7 [0,1,5,6,41,42] (σ:=Nat×Value) (fun t f w'=>f 43 = .int .i64 t.1∧t.1≤D.length∧PE H0 w w' gb a i q c1 c2 c3 c4 t.2 ((D.take t.1).map (U6 q))) (fun t=>D.length-t.1) (0,.slice none 0 0) (by decide +kernel) ?_ ?_
 ·simp only[p7,simprocAttr];exact⟨by trivial,ew6 _,by simpa using s5⟩
 clear s5;rintro⟨k,v⟩ f w5 hk ⟨h43,hkl,s5⟩;simp only at h43 hkl s5;simp only[ev6,p7,simprocAttr]at hk;obtain⟨e0',e1,e5,e6,e41,e42,_⟩:=hk;simp only[m8,n9,simprocAttr,h43,e42];refine i5 (fun hc=>?_) (fun hc=>?_)
 ·have hlt:k<D.length:=by simpa using hc
  have hin:=hud.inS hlt;have hld:=cy3 hud s5.hb (ev4 hlt);have htk:=aD1 (U6 q) D hlt;have hcl:((D.take k).map (U6 q)).length≤1000000000:=by rw[ew5,ew9];omega
  generalize D[k]=d at hld htk;obtain⟨c8,wz6,w6,hal6,hst6,hx6,hc8,hc8n⟩:=cI8 (w:=w5) d.1 d.2;have s6:=s5.more hx6;have lE6:=ldE w6 s6.hb;obtain⟨wz7,hal7,hst7⟩:=dG6 w6 ⟨q,1,0,Go.Proofs.YtcbnbgpphippoaaGreat.e0⟩;have hx7:=o6.alloc w6 (.cells (A0.cells (⟨q,1,0,Go.Proofs.YtcbnbgpphippoaaGreat.e0⟩:Vx)).toArray 36);have hc9:=ez9 w6 (.cells (A0.cells (⟨q,1,0,Go.Proofs.YtcbnbgpphippoaaGreat.e0⟩:Vx)).toArray 36);generalize w6.alloc (.cells (A0.cells (⟨q,1,0,Go.Proofs.YtcbnbgpphippoaaGreat.e0⟩:Vx)).toArray 36)=w7 at hst7 hx7 hc9;obtain⟨l8,_⟩:=ak2 hc8 hx7 id;simp only[cJ4,n9,y0,simprocAttr,h43,e41,e6,hin,hld,hal6,hst6,lE6,hal7,hst7,l8];refine bJ5 [0,1,5,6,8,9,41,42,43] (fun f' w'=>o6 w6 w'∧w'.heap[w6.heap.size]?=some (.cells (A0.cells (U6 q d).src).toArray 36 (0,0))) (by decide +kernel) ?_ ?_
  ·rcases ev5 (decide (d.1=0))with h0|h0
   ·simp only[m8,n9,simprocAttr,h0];refine⟨hx7,?_⟩;unfold U6;rw[if_pos (ev8 h0)];exact hc9
   ·simp only[m8,n9,y0,simprocAttr,h0,e5,l8];refine B8 aj0 (H9 gb _ _ q 2 d.1 Go.Proofs.YtcbnbgpphippoaaGreat.e0 w7 (s6.more hx7).cb rfl) (fun w8 hx8=>?_);obtain⟨w9,q1,q2,q3⟩:=em5 (c:=w6.heap.size) ((hx8.block _ (ew1.1 hc9).1 id).trans hc9) ⟨q,2,d.1,Go.Proofs.YtcbnbgpphippoaaGreat.e0⟩;simp only[m8,simprocAttr,q1];refine⟨o9.ext_of (hx7.trans hx8) q3 fun b hb=>by rw[hb];exact ex0 _,?_⟩;unfold U6;rw[if_neg (ew0 h0)];exact q2
  rintro f8 w8 hk ⟨hx8,hc9'⟩;simp only[ev6,p7,simprocAttr]at hk;obtain⟨g0,g1,g5,g6,g8,g9,g41,g42,g43,_⟩:=hk;have s8:=(s6.more hx8).more (o6.drew w8);have t1:∀K f d' w0',B5 prog (fun w'=>o6 w8.drew w') (Instr.loadAt 36 (.pointer (some ⟨w6.heap.size,0,none⟩))) K f d' w0'=K (A5 f d' (.agg (A0.cells (U6 q d).src).toArray)) w0':=fun K f d' w0'=>z6 (w0:=w8.drew) (o9.refl _) fun w' h=>ek0 ((((o6.drew w8).trans h).block _ (ew1.1 hc9').1 id).trans hc9');have t2:∀K f d' w0',B5 prog (fun w'=>o6 w8.drew w') (Instr.loadAt 3 (.pointer (some ⟨c8,1,none⟩))) K f d' w0'=K (A5 f d' (.int .i64 d.2)) w0':=fun K f d' w0'=>z6 (w0:=w8.drew) (o9.refl _) fun w' h=>(ak2 hc8 (hx8.trans ((o6.drew w8).trans h)) id).2;simp only[m8,simprocAttr];refine C5 (fun w'=>o6 w8.drew w') 6 (B0 [0,1,2,3,4,5]) (by decide +kernel) (o9.refl _) ?_;simp only[D6,B0,m8,n9,y0,simprocAttr,g5,e5,g8,g9,t1,t2];refine B8 aj0 (H9 gb _ _ q 2 d.2 Go.Proofs.YtcbnbgpphippoaaGreat.e0 w8.drew s8.cb rfl) (fun w9 hx9=>⟨hx9,?_⟩);simp only[D6,m8,simprocAttr];refine y5 bI5 (af0 H0 gb a i q c1 c2 c3 c4 v _ (U6 q d).src ⟨q,2,d.2,Go.Proofs.YtcbnbgpphippoaaGreat.e0⟩ 1 w w9 (s8.more hx9) hcl) ?_;rintro _ w10 ⟨v10,s10⟩;simp only[m8,n9,simprocAttr,g43,h43];refine⟨(k+1,v10),by simp only[];omega,by simp only[];rw[B1 k (by omega)],by simp only[];omega,?_⟩;simp only[];rw[htk];exact s10
 have hge:k=D.length:=by simp at hc;omega
 subst hge;rw[ew7]at s5;have hb5:B3 (d7 w) (d7 w5):=p9 hb0 s5.hb;clear hcw hlw lb lp lb4 hinw;simp only[m8,simprocAttr,e0',e1];refine y5 dF2 (aN3 a p i w5 (ha.mono hb5) hr hw hi) ?_;rintro uv w6 ⟨hov,hx6⟩;have s6:=s5.more hx6;have huv:=s5.freshN hov;have b6:=s6.base;have s6:=s6.rebase (i4 _);generalize hK2:B4 w6 (nP gb v)=K2 at s6 huv b6;generalize(p6 p).verts (i:Int)=V at hF hn2 huv;have hL1l:(D.map (U6 q)).length≤41000:=by rw[ew5];exact hn1
 generalize D.map (U6 q)=L1 at s6 hF hL1l;have hSv:=huv.isS;have hnv:=huv.vlen;clear s5;simp only[m8,n9,simprocAttr,hSv,hnv];refine n7 [0,1,5,6,65,66] (σ:=Nat×Value) (fun t f w'=>f 67 = .int .i64 t.1∧t.1≤V.length∧PE K2 w w' gb a i q c1 c2 c3 c4 t.2 (L1++(V.take t.1).flatMap (E5 q))) (fun t=>V.length-t.1) (0,v) (by decide +kernel) ?_ ?_
 ·simp only[p7,simprocAttr];exact⟨by trivial,ew6 _,by simpa using s6⟩
 clear s6;rintro⟨m,v2⟩ f2 w7 hk ⟨h67,hml,s7⟩;simp only at h67 hml s7;simp only[ev6,p7,simprocAttr]at hk;obtain⟨a0,a1,a5,a6,a65,a66,_⟩:=hk;rw[e0']at a0;rw[e1]at a1;rw[e5]at a5;rw[e6]at a6;have hcl7:(L1++(V.take m).flatMap (E5 q)).length≤80000:=by
  have h1:=Q9 (E5 q) 1 (V.take m) fun z _=>aR2 q z;rw[ew9]at h1;rw[ev7];have h2:min m V.length≤30000:=by omega
  omega
 simp only[m8,n9,simprocAttr,h67,a66];refine i5 (fun hc=>?_) (fun hc=>?_)
 ·have hlt:m<V.length:=by simpa using hc
  have hin:=huv.inS hlt;obtain⟨sv,hsv,hld⟩:=G1 (P:=prog) (t:=36) huv (s7.hb) (ev4 hlt) az4 az7 az5 V8;rw[V8]at hld;have htk:=J1 (E5 q) V hlt;generalize V[m]=vx at hsv htk;obtain rfl:=hsv.N;obtain⟨d8,wz8,w8,hal8,hst8,hx8,hat8⟩:=ce9 (hsv.mono s7.hb) (i4 _);obtain⟨ldv,sdv⟩:=hat8.vx;obtain⟨sv,hsv',ldw,sdw⟩:=hat8.vx_v;obtain rfl:=hsv'.N;have l8:=ldv w8 (i4 _);have lw8:=ldw w8 (i4 _);have s8:=s7.more hx8;have lE8:=ldE w8 (p9 b6 s8.hb);have s8d:=s8.more (o6.drew w8);have t1:=sdw (fun w'=>o6 w8.drew w') w8.drew (o9.refl _) fun w' h=>b7 ((o6.drew w8).trans h);have t2:=sdv (fun w'=>o6 w8.drew w') w8.drew (o9.refl _) fun w' h=>b7 ((o6.drew w8).trans h);generalize hxs:L1++(V.take m).flatMap (E5 q)=xs at s7 s8 s8d hcl7;have hxs':L1++(V.take (m+1)).flatMap (E5 q)=xs++E5 q vx:=by rw[htk,←hxs,ey3]
  rcases ev5 (decide (vx.kind=3))with h3|h3
  ·have hs:E5 q vx=[⟨⟨q,1,0,Go.Proofs.YtcbnbgpphippoaaGreat.e0⟩,vx,1⟩]:=by unfold E5;rw[if_pos (.inl (ev8 h3))]
   simp only[m8,n9,y0,simprocAttr,h67,a65,hin,hld,hal8,hst8,l8,h3,a5,a6,lE8,lw8];refine y5 bI5 (af0 K2 gb a i q c1 c2 c3 c4 v2 _ ⟨q,1,0,Go.Proofs.YtcbnbgpphippoaaGreat.e0⟩ vx 1 w w8 s8 (by omega)) ?_;rintro _ w9 ⟨v9,s9⟩;simp only[m8,n9,simprocAttr,h67];refine⟨(m+1,v9),by simp only[];omega,by simp only[];rw[B1 m (by omega)],by simp only[];omega,?_⟩;simp only[];rw[hxs',hs];exact s9
  rcases ev5 (decide (vx.kind=4))with h4|h4
  ·have hs:E5 q vx=[⟨⟨q,1,0,Go.Proofs.YtcbnbgpphippoaaGreat.e0⟩,vx,1⟩]:=by unfold E5;rw[if_pos (.inr (ev8 h4))]
   simp only[m8,n9,y0,simprocAttr,h67,a65,hin,hld,hal8,hst8,l8,h3,h4,a5,a6,lE8,lw8];refine y5 bI5 (af0 K2 gb a i q c1 c2 c3 c4 v2 _ ⟨q,1,0,Go.Proofs.YtcbnbgpphippoaaGreat.e0⟩ vx 1 w w8 s8 (by omega)) ?_;rintro _ w9 ⟨v9,s9⟩;simp only[m8,n9,simprocAttr,h67];refine⟨(m+1,v9),by simp only[];omega,by simp only[];rw[B1 m (by omega)],by simp only[];omega,?_⟩;simp only[];rw[hxs',hs];exact s9
  have hn34:¬(vx.kind=3∨vx.kind=4):=fun h=>h.elim (ew0 h3) (ew0 h4);rcases ev5 (decide (vx.kind=5))with h5|h5
  ·have hs:E5 q vx=[⟨⟨q,2,vx.id,Go.Proofs.YtcbnbgpphippoaaGreat.e0⟩,vx,1⟩]:=by unfold E5;rw[if_neg hn34,if_pos (.inl (ev8 h5))]
   simp only[m8,n9,y0,simprocAttr,h67,a65,hin,hld,hal8,hst8,l8,h3,h4,h5];refine C5 (fun w'=>o6 w8.drew w') 6 (B0 [0,1,2,3,5,4]) (by decide +kernel) (o9.refl _) ?_;simp only[D6,B0,m8,n9,simprocAttr,a5,t1,t2];refine B8 aj0 (H9 gb _ _ q 2 vx.id Go.Proofs.YtcbnbgpphippoaaGreat.e0 w8.drew s8d.cb rfl) (fun w9 hx9=>⟨hx9,?_⟩);simp only[D6,m8,simprocAttr];refine y5 bI5 (af0 K2 gb a i q c1 c2 c3 c4 v2 _ ⟨q,2,vx.id,Go.Proofs.YtcbnbgpphippoaaGreat.e0⟩ vx 1 w w9 (s8d.more hx9) (by omega)) ?_;rintro _ w10 ⟨v10,s10⟩;simp only[m8,n9,simprocAttr,h67];refine⟨(m+1,v10),by simp only[];omega,by simp only[];rw[B1 m (by omega)],by simp only[];omega,?_⟩;simp only[];rw[hxs',hs];exact s10
  rcases ev5 (decide (vx.kind=6))with h6|h6
  ·have hs:E5 q vx=[⟨⟨q,2,vx.id,Go.Proofs.YtcbnbgpphippoaaGreat.e0⟩,vx,1⟩]:=by unfold E5;rw[if_neg hn34,if_pos (.inr (ev8 h6))]
   simp only[m8,n9,y0,simprocAttr,h67,a65,hin,hld,hal8,hst8,l8,h3,h4,h5,h6];refine C5 (fun w'=>o6 w8.drew w') 6 (B0 [0,1,2,3,5,4]) (by decide +kernel) (o9.refl _) ?_;simp only[D6,B0,m8,n9,simprocAttr,a5,t1,t2];refine B8 aj0 (H9 gb _ _ q 2 vx.id Go.Proofs.YtcbnbgpphippoaaGreat.e0 w8.drew s8d.cb rfl) (fun w9 hx9=>⟨hx9,?_⟩);simp only[D6,m8,simprocAttr];refine y5 bI5 (af0 K2 gb a i q c1 c2 c3 c4 v2 _ ⟨q,2,vx.id,Go.Proofs.YtcbnbgpphippoaaGreat.e0⟩ vx 1 w w9 (s8d.more hx9) (by omega)) ?_;rintro _ w10 ⟨v10,s10⟩;simp only[m8,n9,simprocAttr,h67];refine⟨(m+1,v10),by simp only[];omega,by simp only[];rw[B1 m (by omega)],by simp only[];omega,?_⟩;simp only[];rw[hxs',hs];exact s10
  have hs:E5 q vx=[]:=by
   unfold E5;rw[if_neg hn34,if_neg fun h=>h.elim (ew0 h5) (ew0 h6)]
  simp only[m8,n9,y0,simprocAttr,h67,a65,hin,hld,hal8,hst8,l8,h3,h4,h5,h6];refine⟨(m+1,v2),by simp only[];omega,by simp only[];rw[B1 m (by omega)],by simp only[];omega,?_⟩;simp only[];rw[hxs',hs,ey7];exact s8
 have hge:m=V.length:=by simp at hc;omega
 subst hge;rw[ew7]at s7 hcl7;have hb7:B3 (d7 w) (d7 w7):=p9 hb0 (p9 b6 s7.hb);simp only[m8,simprocAttr,a0,a1];refine y5 er5 (cf7 a p i w7 (ha.mono hb7) hr hw hi) ?_;rintro uf w8 ⟨hof,hx8⟩;have s8:=s7.more hx8;have huf:=s7.freshN hof;have b8:=p9 b6 s8.base;have s8:=s8.rebase (i4 _);generalize hK3:B4 w8 (nP gb v2)=K3 at s8 huf b8;generalize(p6 p).flows (i:Int)=Fl at hF hn3 hfp huf;generalize L1++V.flatMap (E5 q)=L2 at s8 hF hcl7;generalize hG:(fun f:Fw=>((p6 p).takers q f.dst f.var).map fun v=>(⟨(p6 p).giver q f.src f.var,v,2⟩:Eg))=G at hF;have hGe:∀f:Fw,G f=((p6 p).takers q f.dst f.var).map fun v=>(⟨(p6 p).giver q f.src f.var,v,2⟩:Eg):=fun f=>by rw[←hG]
 have hGl:∀f∈Fl,(G f).length≤9:=fun f hf=>by
  rw[hGe,ew5];exact aM3 hr hw (hfp f hf).2
 have hSf:=huf.isS;have hnf:=huf.vlen;clear s7 hG;simp only[m8,n9,simprocAttr,hSf,hnf];refine n7 [0,1,5,6,93,94] (σ:=Nat×Value) (fun t f w'=>f 95 = .int .i64 t.1∧t.1≤Fl.length∧PE K3 w w' gb a i q c1 c2 c3 c4 t.2 (L2++(Fl.take t.1).flatMap G)) (fun t=>Fl.length-t.1) (0,v2) (by decide +kernel) ?_ ?_
 ·simp only[p7,simprocAttr];exact⟨by trivial,ew6 _,by simpa using s8⟩
 clear s8;rintro⟨k,v3⟩ f3 w9 hk ⟨h95,hkl,s9⟩;simp only at h95 hkl s9;simp only[ev6,p7,simprocAttr]at hk;obtain⟨b0,b1,b5,b6',b93,b94,_⟩:=hk;rw[a5]at b5;have hcl9:(L2++(Fl.take k).flatMap G).length≤50000000:=by
  have h1:=Q9 G 9 (Fl.take k) fun z hz=>hGl z (eE0 hz);rw[ew9]at h1;rw[ev7];have h2:min k Fl.length≤5000000:=by omega
  omega
 have hb3:B3 (d7 w) K3:=p9 hb0 b8;simp only[m8,n9,simprocAttr,h95,b94];refine i5 (fun hc=>?_) (fun hc=>?_);rotate_left
 ·have hge:k=Fl.length:=by simp at hc;omega
  subst hge;rw[ew7]at s9 hcl9;have l9:(Instr.loadAt 32 (.pointer (some ⟨gb,8,none⟩))).run prog w9 = .ok v3 w9:=F0 (i:=8) (u:=v3) s9.cb rfl cG0;simp only[m8,n9,simprocAttr,b5,l9];refine y5 es2 (bP3 s9.ox (by omega) (B7 _ _)) ?_;rintro u w10 ⟨ho10,hm10,_⟩;simp only[m8,simprocAttr];refine n8 results40 ?_;simp only[p7,simprocAttr];refine⟨?_,o9.ext_of s9.ext hm10 fun b hb=>(s9.dx b hb).1⟩;have e:(p6 p).edges (i:Int)=bm0 (L2++Fl.flatMap G):=by unfold Bk.edges;rw[hF]
  rw[e];exact ho10.downN (p9 hb3 s9.base)
 have hlt:k<Fl.length:=by simpa using hc
 have hin:=huf.inS hlt;obtain⟨sv,hsv,hld⟩:=G1 (P:=prog) (t:=97) huf (s9.hb) (ev4 hlt) cG1 cH6 cG2 bO3;rw[bO3]at hld;have htk:=J1 G Fl hlt;obtain⟨hps,hpd⟩:=hfp _ (ew4 hlt);generalize Fl[k]=fl at hsv htk hps hpd;obtain⟨d13,wz10,w10,hal10,hst10,hx10,hat10⟩:=cV1 (hsv.mono s9.hb) (i4 _);obtain⟨ldf,_⟩:=hat10.fw;have l10:=ldf w10 (i4 _);have s10:=s9.more hx10;simp only[m8,n9,y0,simprocAttr,h95,b93,hin,hld,hal10,hst10,l10,b5];refine B8 es0 (ck1 gb _ _ a p q fl.src fl.var w10 s10.cb rfl rfl (ha.mono (p9 hb3 s10.hb)) hr hw hps) (fun w11 hx11=>?_);have s11:=s10.more hx11;have hGf:=hGe fl;generalize(p6 p).giver q fl.src fl.var=gv at hGf;obtain⟨d14,wz12,w12,hal12,hst12,hx12,hat12⟩:=bD9 (w:=w11) (nP gb v3) (SV.ofN (d7 w11) gv) fun b hb=>s11.lt hb;have s12:=s11.more hx12;have l12:=ldf w12 (b7 (hx11.trans hx12));simp only[m8,n9,simprocAttr,hal12,hst12,l12,b5];refine y5 es1 (bW2 gb _ _ a p q fl.dst fl.var w12 s12.cb rfl rfl (ha.mono (p9 hb3 s12.hb)) hr hw hpd) ?_;rintro ut w13 ⟨hot,hx13⟩;have s13:=s12.more hx13;have hut:=s12.freshN hot;have hat13:=hat12.mono (H1 (N':=nP gb v3) hx13 (fun _ h=>h.elim) fun b h=>.inl h);have b13:=s13.base;have s13:=s13.rebase (i4 _);generalize hK4:B4 w13 (nP gb v3)=K4 at s13 hut hat13 b13;obtain⟨ldg,_⟩:=J7.vx_v (SV.ofN (d7 w11) gv) hat13;have htf:=aM3 hr hw (q:=q) (n:=fl.var) hpd;generalize(p6 p).takers q fl.dst fl.var=Tk at hGf hut htf;generalize hxs:L2++(Fl.take k).flatMap G=xs at s13 hcl9;have hxs':L2++(Fl.take (k+1)).flatMap G=xs++Tk.map fun v=>(⟨gv,v,2⟩:Eg):=by rw[htk,hGf,←hxs,ey3]
 have hSt:=hut.isS;have hnt:=hut.vlen;clear s9 s10 s11 s12;simp only[m8,n9,simprocAttr,hSt,hnt];refine n7 [0,1,5,6,14,93,94,95,110,111] (σ:=Nat×Value) (fun t f w'=>f 112 = .int .i64 t.1∧t.1≤Tk.length∧PE K4 w w' gb a i q c1 c2 c3 c4 t.2 (xs++(Tk.take t.1).map fun v=>(⟨gv,v,2⟩:Eg))) (fun t=>Tk.length-t.1) (0,v3) (by decide +kernel) ?_ ?_
 ·simp only[p7,simprocAttr];exact⟨by trivial,ew6 _,by simpa using s13⟩
 clear s13;rintro⟨j,v4⟩ f4 w14 hk ⟨h112,hjl,s14⟩;simp only at h112 hjl s14;simp only[ev6,p7,simprocAttr]at hk;obtain⟨j0,j1,j5,j6,j14,j93,j94,j95,j110,j111,_⟩:=hk;rw[b5]at j5;rw[h95]at j95;simp only[m8,n9,simprocAttr,h112,j111];refine i5 (fun hc2=>?_) (fun hc2=>?_);rotate_left
 ·have hge:j=Tk.length:=by simp at hc2;omega
  subst hge;rw[ew7]at s14;simp only[m8,n9,simprocAttr,j95];refine⟨(k+1,v4),by simp only[];omega,by simp only[];rw[B1 k (by omega)],by simp only[];omega,?_⟩;simp only[];rw[hxs'];exact s14.rebase (p9 b13 s14.base)
 have hlt2:j<Tk.length:=by simpa using hc2
 clear hin hld hsv;have hin:=hut.inS hlt2;obtain⟨sv,hsv,hld⟩:=G1 (P:=prog) (t:=36) hut (s14.hb) (ev4 hlt2) az4 az7 az5 V8;rw[V8]at hld;have htk2:=aD1 (fun v=>(⟨gv,v,2⟩:Eg)) Tk hlt2;have hcl14:(xs++(Tk.take j).map fun v=>(⟨gv,v,2⟩:Eg)).length≤1000000000:=by
  rw[ev7,ew5,ew9];omega
 generalize Tk[j]=tv at hsv htk2;obtain rfl:=hsv.N;obtain⟨d16,wz15,w15,hal15,hst15,hx15,hat15⟩:=ce9 (hsv.mono s14.hb) (i4 _);obtain⟨sv,hsv',ldt,_⟩:=hat15.vx_v;obtain rfl:=hsv'.N;have s15:=s14.more hx15;have lg:=ldg w15 s15.hb;have lt:=ldt w15 (i4 _);simp only[m8,n9,y0,simprocAttr,h112,j110,hin,hld,hal15,hst15,j5,j14,lg,lt];refine y5 bI5 (af0 K4 gb a i q c1 c2 c3 c4 v4 _ gv tv 2 w w15 s15 hcl14) ?_;rintro _ w16 ⟨v16,s16⟩;simp only[m8,n9,simprocAttr,h112];refine⟨(j+1,v16),by simp only[];omega,by simp only[];rw[B1 j (by omega)],by simp only[];omega,?_⟩;simp only[];rw[htk2,←ey3];exact s16
theorem cw8:ag2 prog 38=true:=by kernel_rfl
theorem er3:ag2 prog 40=true:=by kernel_rfl
theorem er4:ag2 prog 45=true:=by kernel_rfl
def cp1(p:Pg)(n:A4):Prop:=¬(T2 p=true∧0≤T5 p.procs n)
def by0(p:Pg)(n:A4)(k:Nat):Prop:=T2 p=true∧T5 p.procs n=(k:Int)∧k<p.procs.length
theorem ar0(x:Option Addr):B6 prog .eql 78 (.pointer x) (.pointer none)=some (.bool x.isNone):=be9 rfl (by kernel_rfl)
theorem cN6{p:Pg}{n:A4}(h:0≤T5 p.procs n):∃k:Nat,T5 p.procs n=(k:Int)∧k<p.procs.length:=by
 obtain⟨k,e,x,hx,_⟩:=aC6 _ p.procs 0 h;exact⟨k,by unfold T5;rw[e];simp,(ev9.1 hx).1⟩
theorem aq3(v:Value)(p:Pg)(n:A4)(w:World)(hv:SV (d7 w) v p)(hw:D0 p≤1000000):
  Calls prog 38 #[v,o7 n] w fun e w'=>∃u,e = .returned u∧(∃bv iv,u = .tuple #[bv,iv]∧o6 w w'∧((cp1 p n∧bv = .pointer none)∨∃k,by0 p n k∧iv = .int .i64 (k:Nat)∧∃ad,bv = .pointer (some ad)∧At (d7 w') ad (p6 p))):=by
 refine d9 (args:=[v,o7 n]) hm func38 rfl (by kernel_rfl) (by show 2≤_;decide +kernel) ?_;obtain⟨c,w1,hbx,hx1,hatp⟩:=V0 hv (i4 _);obtain⟨sp,hsp,ldsp,_⟩:=hatp.pg_v;have l1:=ldsp w1 (i4 _);simp only[m8,n9,simprocAttr,hbx,l1];refine y5 er4 (cK4 sp p w1 hsp hw) ?_;rintro u w2 ⟨hf,ht,hx2⟩;cases hR:T2 p
 ·obtain rfl:=hf hR;simp only[m8,n9,simprocAttr,ar0];refine ae5 results38 ?_;simp only[p7,simprocAttr];exact⟨_,_,rfl,hx1.trans hx2,.inl ⟨fun h=>(by rw[hR]at h;cases h.1),by trivial⟩⟩
 obtain⟨ad,rfl,had⟩:=ht hR;obtain⟨sh,_,_,_,_,_,has,_,_,_,_,_,ldb,_⟩:=had.book rfl;have hlp:(b9 p).p.procs.length≤1000000000:=by
  rw[I5];have:=(R7 (R8 hR).may).2;omega
 have hz:(b9 p).pr n=T5 p.procs n:=by unfold Sh.pr;rw[I5]
 have lb2:=ldb w2 (i4 _);simp only[m8,n9,simprocAttr,ar0,lb2];refine B8 cb7 (ao4 sh (b9 p) n w2 has hlp) (fun w3 hx3=>?_);have lb3:=ldb w3 (b7 hx3);rw[hz];rcases ev5 (decide (T5 p.procs n<0))with h0|h0
 ·simp only[m8,n9,simprocAttr,h0];refine ae5 results38 ?_;simp only[p7,simprocAttr];exact⟨_,_,rfl,(hx1.trans hx2).trans hx3,.inl ⟨fun h=>(by have:=ev8 h0;have:=h.2;omega),by trivial⟩⟩
 ·obtain⟨k,hk,hkl⟩:=cN6 (p:=p) (n:=n) (by have:=ew0 h0;omega);simp only[m8,n9,simprocAttr,h0,lb3];refine B8 cb7 (ao4 sh (b9 p) n w3 (has.mono (b7 hx3)) hlp) (fun w4 hx4=>?_);rw[hz];simp only[m8,simprocAttr];refine ae5 results38 ?_;simp only[p7,simprocAttr];exact⟨_,_,rfl,((hx1.trans hx2).trans hx3).trans hx4,.inr ⟨k,⟨hR,hk,hkl⟩,by rw[hk],ad,by trivial,had.mono (b7 (hx3.trans hx4))⟩⟩
theorem aG7{p:Pg}{n:A4}(h:cp1 p n):aK3 p n=none:=if_neg h
theorem al0{p:Pg}{n:A4}{k:Nat}(h:by0 p n k):aK3 p n=some (p6 p,(k:Int)):=by
 unfold aK3;rw[if_pos ⟨h.1,by rw[h.2.1];omega⟩,h.2.1]
theorem bC2(v:Value)(p:Pg)(n:A4)(w:World)(hv:SV (d7 w) v p)(hw:D0 p≤1000000):
  Calls prog 18 #[v,o7 n] w fun e w'=>∃u,e = .returned u∧(A8 (d7 w) w' 9 u (bm6 p n)∧o6 w w'):=by
 refine d9 (args:=[v,o7 n]) hm func18 rfl (by kernel_rfl) (by show 2≤_;decide +kernel) ?_;obtain⟨c,w1,hbx,hx1,hatp⟩:=V0 hv (i4 _);obtain⟨sp,hsp,ldsp,_⟩:=hatp.pg_v;have l1:=ldsp w1 (i4 _);simp only[m8,n9,simprocAttr,hbx,l1];refine y5 cw8 (aq3 sp p n w1 hsp hw) ?_;rintro _ w2 ⟨bv,iv,rfl,hx2,⟨hno,rfl⟩|⟨k,hb,rfl,ad,rfl,had⟩⟩
 ·simp only[m8,n9,simprocAttr,ar0];refine n8 results18 ?_;simp only[p7,simprocAttr];unfold bm6;rw[aG7 hno];exact⟨A8.nil _ _ _,hx1.trans hx2⟩
 ·simp only[m8,n9,simprocAttr,ar0];refine y5 cw9 (aE9 ad p k w2 had (R8 hb.1) hw hb.2.2) ?_;rintro _ w3 ⟨ui,uo,rfl,hoi,hoo,_,hx3⟩;simp only[m8,simprocAttr];refine n8 results18 ?_;simp only[p7,simprocAttr];unfold bm6;rw[al0 hb]
  first
   | exact⟨hoi.back (hx1.trans hx2),(hx1.trans hx2).trans hx3⟩
   | exact⟨hoo.back (hx1.trans hx2),(hx1.trans hx2).trans hx3⟩
theorem bC1(v:Value)(p:Pg)(n:A4)(w:World)(hv:SV (d7 w) v p)(hw:D0 p≤1000000):
  Calls prog 19 #[v,o7 n] w fun e w'=>∃u,e = .returned u∧(A8 (d7 w) w' 9 u (bh0 p n)∧o6 w w'):=by
 refine d9 (args:=[v,o7 n]) hm func19 rfl (by kernel_rfl) (by show 2≤_;decide +kernel) ?_;obtain⟨c,w1,hbx,hx1,hatp⟩:=V0 hv (i4 _);obtain⟨sp,hsp,ldsp,_⟩:=hatp.pg_v;have l1:=ldsp w1 (i4 _);simp only[m8,n9,simprocAttr,hbx,l1];refine y5 cw8 (aq3 sp p n w1 hsp hw) ?_;rintro _ w2 ⟨bv,iv,rfl,hx2,⟨hno,rfl⟩|⟨k,hb,rfl,ad,rfl,had⟩⟩
 ·simp only[m8,n9,simprocAttr,ar0];refine n8 results19 ?_;simp only[p7,simprocAttr];unfold bh0;rw[aG7 hno];exact⟨A8.nil _ _ _,hx1.trans hx2⟩
 ·simp only[m8,n9,simprocAttr,ar0];refine y5 cw9 (aE9 ad p k w2 had (R8 hb.1) hw hb.2.2) ?_;rintro _ w3 ⟨ui,uo,rfl,hoi,hoo,_,hx3⟩;simp only[m8,simprocAttr];refine n8 results19 ?_;simp only[p7,simprocAttr];unfold bh0;rw[al0 hb]
  first
   | exact⟨hoi.back (hx1.trans hx2),(hx1.trans hx2).trans hx3⟩
   | exact⟨hoo.back (hx1.trans hx2),(hx1.trans hx2).trans hx3⟩
theorem az0(v:Value)(p:Pg)(n:A4)(w:World)(hv:SV (d7 w) v p)(hw:D0 p≤1000000):
  Calls prog 11 #[v,o7 n] w fun e w'=>∃u,e = .returned u∧(A8 (d7 w) w' 36 u (aE5 p n)∧o6 w w'):=by
 refine d9 (args:=[v,o7 n]) hm func11 rfl (by kernel_rfl) (by show 2≤_;decide +kernel) ?_;obtain⟨c,w1,hbx,hx1,hatp⟩:=V0 hv (i4 _);obtain⟨sp,hsp,ldsp,_⟩:=hatp.pg_v;have l1:=ldsp w1 (i4 _);simp only[m8,n9,simprocAttr,hbx,l1];refine y5 cw8 (aq3 sp p n w1 hsp hw) ?_;rintro _ w2 ⟨bv,iv,rfl,hx2,⟨hno,rfl⟩|⟨k,hb,rfl,ad,rfl,had⟩⟩
 ·simp only[m8,n9,simprocAttr,ar0];refine n8 results11 ?_;simp only[p7,simprocAttr];unfold aE5;rw[aG7 hno];exact⟨A8.nil _ _ _,hx1.trans hx2⟩
 ·simp only[m8,n9,simprocAttr,ar0];refine y5 dF2 (aN3 ad p k w2 had (R8 hb.1) hw hb.2.2) ?_;rintro u w3 ⟨ho,hx3⟩;simp only[m8,simprocAttr];refine n8 results11 ?_;simp only[p7,simprocAttr];unfold aE5;rw[al0 hb];exact⟨ho.backN (hx1.trans hx2),(hx1.trans hx2).trans hx3⟩
theorem aP8(v:Value)(p:Pg)(n:A4)(w:World)(hv:SV (d7 w) v p)(hw:D0 p≤1000000):
  Calls prog 13 #[v,o7 n] w fun e w'=>∃u,e = .returned u∧(A8 (d7 w) w' 60 u (ai1 p n)∧o6 w w'):=by
 refine d9 (args:=[v,o7 n]) hm func13 rfl (by kernel_rfl) (by show 2≤_;decide +kernel) ?_;obtain⟨c,w1,hbx,hx1,hatp⟩:=V0 hv (i4 _);obtain⟨sp,hsp,ldsp,_⟩:=hatp.pg_v;have l1:=ldsp w1 (i4 _);simp only[m8,n9,simprocAttr,hbx,l1];refine y5 cw8 (aq3 sp p n w1 hsp hw) ?_;rintro _ w2 ⟨bv,iv,rfl,hx2,⟨hno,rfl⟩|⟨k,hb,rfl,ad,rfl,had⟩⟩
 ·simp only[m8,n9,simprocAttr,ar0];refine n8 results13 ?_;simp only[p7,simprocAttr];unfold ai1;rw[aG7 hno];exact⟨A8.nil _ _ _,hx1.trans hx2⟩
 ·simp only[m8,n9,simprocAttr,ar0];refine y5 er3 (cf6 ad p k w2 had (R8 hb.1) hw hb.2.2) ?_;rintro u w3 ⟨ho,hx3⟩;simp only[m8,simprocAttr];refine n8 results13 ?_;simp only[p7,simprocAttr];unfold ai1;rw[al0 hb];exact⟨ho.backN (hx1.trans hx2),(hx1.trans hx2).trans hx3⟩
def aX8(n:Int):Ex:=.mk 1 n e0 []
def Z9(s:A4):Ex:=.mk 2 0 s []
def cb2(op:Int)(a b:Ex):Ex:=.mk op 0 e0 [a,b]
def sV:A4:=ofA #[118]
def sG:A4:=ofA #[103]
def sP:A4:=ofA #[112]
def sX:A4:=ofA #[120]
def sY:A4:=ofA #[121]
def sE:A4:=ofA #[101]
def bl8:Pr:=⟨R3,[],[sV],[.mk 1 1 [] sV e0 (aX8 2) false [] [] [],.mk 2 4 [] sG sP (.mk 0 0 e0 []) false [⟨false,e0,aX8 3⟩,⟨true,sV,.mk 0 0 e0 []⟩] [] [],
 .mk 3 3 [] e0 e0 (Z9 sV) false [] [] [],.mk 4 3 [] e0 e0 (Z9 sG) false [] [] []],[]⟩
def bl9:Pr:=⟨sP,[⟨sX,false⟩,⟨sY,true⟩],[],[.mk 5 1 [] sY e0 (cb2 8 (Z9 sY) (Z9 sX)) false [] [] [],
 .mk 6 5 [] e0 e0 (cb2 12 (Z9 sY) (aX8 9)) false [] [.mk 7 10 [] sE e0 (.mk 0 0 e0 []) false [] [] []] [],.mk 8 9 [] e0 e0 (Z9 sY) true [] [] []],[sE]⟩
def ao7:Pg:=⟨[sG],[bl8,bl9]⟩
theorem bV6:bm6 ao7 sP=[sX,sY]:=by decide +kernel
theorem bV5:bh0 ao7 sP=[M2,sY]:=by decide +kernel
theorem bV7:(aE5 ao7 R3).length=11:=by decide +kernel
theorem cn4:(ai1 ao7 sP).contains ⟨⟨sP,2,5,e0⟩,⟨sP,4,0,sY⟩,2⟩=true:=by decide +kernel
theorem cB3{P:Program}{T:TypeId}{z:Value}(hz:H3 P T=some z)(hzs:z.cells.size=E4 P T)(hz1:∀u∈z.cells.toList,u.oneCell'=true)(ht:B9 P T=true)(hu:(P.underlying T).isSome=true)(hi:(P.info? T).isSome=true)(w:World):
  ∃w0,w.heap.size<w0.heap.size∧(Instr.alloc T true (.tuple #[])).run P w = .ok (.pointer (some ⟨w.heap.size,0,none⟩)) w0∧o6 w w0∧∀(w':World) (cs:Array Value),cs.size=E4 P T→(∀u∈cs.toList,u.oneCell'=true)→o6 w0 w' →
  ∃w'',(Instr.storeAt T (.pointer (some ⟨w.heap.size,0,none⟩)) (.agg cs)).run P w' = .ok () w''∧(Instr.loadAt T (.pointer (some ⟨w.heap.size,0,none⟩))).run P w'' = .ok (.agg cs) w''∧o6 w w''∧o9 (fun b=>b=w.heap.size) w' w'':=by
 have h1:=(aU2 (P:=P) (w:=w) (T:=T) hz hzs (cs:=z.cells) hzs hz1).1;refine⟨_,by simp,h1,o6.alloc _ _,fun w' cs hcs hc1 hx=>?_⟩;have hb:w'.heap[w.heap.size]?=some (.cells z.cells T (0,0)):=(hx.block _ (by simp) id).trans (ez9 w _);obtain⟨w'',e1,e2,e3⟩:=ap8 (P:=P) (T:=T) hb hz hzs hcs hc1;exact⟨w'',e1,ac4 e2 ht hu hi hcs.symm,o9.ext_of ((o6.alloc _ _).trans hx) e3 fun b hb=>by rw[hb];exact ex0 _,e3⟩
theorem cB4(w:World):∃w0,w.heap.size<w0.heap.size∧(Instr.alloc 41 true (.tuple #[])).run prog w = .ok (.pointer (some ⟨w.heap.size,0,none⟩)) w0∧o6 w w0∧∀(w':World) (cs:Array Value),cs.size=E4 prog 41→(∀u∈cs.toList,u.oneCell'=true)→o6 w0 w' →
  ∃w'',(Instr.storeAt 41 (.pointer (some ⟨w.heap.size,0,none⟩)) (.agg cs)).run prog w' = .ok () w''∧(Instr.loadAt 41 (.pointer (some ⟨w.heap.size,0,none⟩))).run prog w'' = .ok (.agg cs) w''∧o6 w w''∧o9 (fun b=>b=w.heap.size) w' w'':=
 cB3 cI2 (by rw[ap0];rfl) (by simp[Value.cells,Value.oneCell']) bm8 bn6 bn1 w
theorem P7{k:IntKind}{n:Int}:(Value.int k n).cells=#[.int k n]:=rfl
theorem aK4{b:Bool}:(Value.bool b).cells=#[.bool b]:=rfl
theorem P8{s:A4}:(o7 s).cells=#[o7 s]:=rfl
theorem as4{cs:Array Value}:(Value.agg cs).cells=cs:=rfl
theorem dB2:(Value.slice none 0 0).cells=#[.slice none 0 0]:=rfl
theorem P2:Value.string ⟨#[]⟩=o7 e0:=rfl
theorem cq2(n:Int):C1 prog 41 [(0,.int .i64 1),(1,.int .i64 n)]=some (.agg #[.int .i64 1,.int .i64 n,o7 e0,.slice none 0 0]):=by
 simp[C1,ce4,J6,Instr.fill,P7,P2]
theorem cq3(s:A4):C1 prog 41 [(0,.int .i64 2),(2,o7 s)]=some (.agg #[.int .i64 2,.int .i64 0,o7 s,.slice none 0 0]):=by
 simp[C1,ce4,J6,Instr.fill,P7,P8,P2]
theorem cq4(op:Int)(vk:Value)(hk:vk.cells=#[vk]):C1 prog 41 [(0,.int .i64 op),(3,vk)]=some (.agg #[.int .i64 op,.int .i64 0,o7 e0,vk]):=by
 simp[C1,ce4,J6,Instr.fill,P7,P2,hk]
theorem bB3(n:Int)(w:World):Calls prog 49 #[.int .i64 n] w fun e w'=>∃u,e = .returned u∧(u = .agg #[.int .i64 1,.int .i64 n,o7 e0,.slice none 0 0]∧o6 w w'):=by
 refine d9 (args:=[.int .i64 n]) hm func49 rfl (by kernel_rfl) (by show 1≤_;decide +kernel) ?_;obtain⟨w0,_,hal,hx0,hend⟩:=cB4 w;obtain⟨w1,q1,q2,q3,_⟩:=hend w0 #[.int .i64 1,.int .i64 n,o7 e0,.slice none 0 0] (by rw[ap0];rfl) (by simp[o7,Value.oneCell']) (o9.refl _);have hb:=cq2 n;simp only[m8,n9,simprocAttr,hal,hb,q1];refine L8 results49 (ad:=⟨w.heap.size,0,none⟩) (by simp only[p7,simprocAttr]) q2 ?_;exact⟨rfl,q3⟩
theorem al3(s:A4)(w:World):Calls prog 50 #[o7 s] w fun e w'=>∃u,e = .returned u∧(u = .agg #[.int .i64 2,.int .i64 0,o7 s,.slice none 0 0]∧o6 w w'):=by
 refine d9 (args:=[o7 s]) hm func50 rfl (by kernel_rfl) (by show 1≤_;decide +kernel) ?_;obtain⟨w0,_,hal,hx0,hend⟩:=cB4 w;obtain⟨w1,q1,q2,q3,_⟩:=hend w0 #[.int .i64 2,.int .i64 0,o7 s,.slice none 0 0] (by rw[ap0];rfl) (by simp[o7,Value.oneCell']) (o9.refl _);have hb:=cq3 s;simp only[m8,n9,simprocAttr,hal,hb,q1];refine L8 results50 (ad:=⟨w.heap.size,0,none⟩) (by simp only[p7,simprocAttr]) q2 ?_;exact⟨rfl,q3⟩
section
variable {h:Hp}
theorem aq7{op n:Int}{name:A4}{vk:Value}{kids:List Ex}(hk:R h vk kids):SV h (.agg #[.int .i64 op,.int .i64 n,o7 name,vk]) (Ex.mk op n name kids):=⟨_,rfl,bz6.2 ⟨vk,rfl,hk⟩⟩
theorem cZ4{r:Bool}{name:A4}{c1 c2 c3 c4:Value}{x:Ex}(hx:SV h (.agg #[c1,c2,c3,c4]) x):SV h (.agg #[.bool r,o7 name,c1,c2,c3,c4]) (⟨r,name,x⟩:Ar):=⟨_,rfl,[c1,c2,c3,c4],rfl,hx.enc⟩
theorem bb0{id kind:Int}{vl:Value}{labels:List A4}{name proc:A4}{c1 c2 c3 c4:Value}{x:Ex}{has:Bool}{va vt ve:Value}{args:List Ar}{thn els:List St}
  (hl:R h vl labels) (hx:SV h (.agg #[c1,c2,c3,c4]) x) (ha:R h va args) (ht:R h vt thn) (he:R h ve els) :
  SV h (.agg #[.int .i64 id,.int .i64 kind,vl,o7 name,o7 proc,c1,c2,c3,c4,.bool has,va,vt,ve]) (St.mk id kind labels name proc x has args thn els):=
 ⟨_,rfl,bz7.2 ⟨vl,[c1,c2,c3,c4],va,vt,ve,rfl,hl,hx.enc,ha,ht,he⟩⟩
theorem cZ5{name:A4}{v1 v2 v3 v4:Value}{params:List Pa}{vars:List A4}{body:List St}{fin:List A4}(h1:R h v1 params)(h2:R h v2 vars)(h3:R h v3 body)(h4:R h v4 fin):
  SV h (.agg #[o7 name,v1,v2,v3,v4]) (⟨name,params,vars,body,fin⟩:Pr):=⟨_,rfl,v1,v2,v3,v4,rfl,h1,h2,h3,h4⟩
theorem dJ9{v1 v2:Value}{globals:List A4}{procs:List Pr}(h1:R h v1 globals)(h2:R h v2 procs):SV h (.agg #[v1,v2]) (⟨globals,procs⟩:Pg):=⟨_,rfl,v1,v2,rfl,h1,h2⟩
theorem I1{α:Type}[z7 α]:R h (.slice none 0 0) ([]:List α):=⟨none,0,0,rfl,rfl,ex0 _,[],rfl,fun j v h=>by simp at h⟩
end
def bY7{α:Type}[z7 α](h:Hp):List Value→List α→Prop
 | [],[]=>True
 | x::xs,y::ys=>SV h x y∧bY7 h xs ys
 | _,_=>False
theorem bv2{α:Type}[z7 α]{h:Hp}:∀{xs:List Value} {ys:List α},bY7 h xs ys→N2 h (xs.flatMap (·.cells.toList)) ys∧(∀x∈xs,x.cells.size=z7.sz α)∧ys.length=xs.length
 | [],[],_=>⟨rfl,fun x hx=>(by cases hx),rfl⟩
 | x::xs,y::ys,⟨h1,h2⟩=>by
  obtain⟨i1,i2,i3⟩:=bv2 h2;refine⟨⟨x.cells.toList,_,by simp,h1.enc,i1⟩,fun z hz=>?_,by simp[i3]⟩;rcases ex6.1 hz with rfl|hz
  ·have:=z7.len h1.enc;simpa using this
  ·exact i2 z hz
theorem cY1{P:Program}{t T:TypeId}{sz by_:Nat}(hs:F3 P t T sz by_=true){α:Type}[z7 α](hsz:z7.sz α=sz){h:Hp}{w:World}{xs:List Value}{ys:List α}{parts:Array (Nat×Value)}{n:Nat}(hp:parts.toList=(xs.zipIdx 0).map fun p=>(p.2,p.1))
  (hxy:bY7 h xs ys) (hn:n=xs.length) (hne:xs≠[]) (hlt:xs.length≤16) (hw:B3 h (d7 w)) :
  ∃v w',(Instr.buildSlice t n parts).run P w = .ok v w'∧R (d7 w') v ys∧v.cells=#[v]∧o6 w w'∧A8 h w' T v ys∧∀b,A3 v b→w.heap.size≤b:=by
 obtain⟨h1,h2,h3⟩:=bv2 hxy;obtain⟨v,w',q1,q2,q3,q4⟩:=lit hs hp h1 (by rw[←hsz];exact h2) hn h3 hne hlt hw;exact⟨v,w',q1,q2.rw_ (p9 hw (b7 q3)),D9 q2.isS,q3,q2,q4⟩
theorem noE{N:Nat→Prop}{w w':World}(hx:o6 w w'):B3 (B4 w N) (B4 w' N):=H1 hx (fun _ h=>h.elim) fun b h=>.inl h
theorem cl2{P:Program}{t T:TypeId}{sz by_:Nat}(hs:F3 P t T sz by_=true){α:Type}[z7 α](hsz:z7.sz α=sz){N:Nat→Prop}{w:World}(hN:∀b,N b→b<w.heap.size){xs:List Value}{ys:List α}{parts:Array (Nat×Value)}{n:Nat}(hp:parts.toList=(xs.zipIdx 0).map fun p=>(p.2,p.1))
  (hxy:bY7 (B4 w N) xs ys) (hn:n=xs.length) (hne:xs≠[]) (hlt:xs.length≤16) :
  ∃v w',(Instr.buildSlice t n parts).run P w = .ok v w'∧R (B4 w' N) v ys∧v.cells=#[v]∧o6 w w'∧A8 (B4 w N) w' T v ys∧∀b,A3 v b→w.heap.size≤b:=by
 obtain⟨v,w',q1,_,q2,q3,q4,q5⟩:=cY1 hs hsz hp hxy hn hne hlt (B7 _ _);exact⟨v,w',q1,q4.ro (noE q3) fun b hb=>D3 fun h=>(by have:=hN b h;have:=q5 b hb;omega),q2,q3,q4,q5⟩
theorem de7(s:A4){N:Nat→Prop}(w:World)(hN:∀b,N b→b<w.heap.size):∃v w',(Instr.buildSlice 22 1 #[(0,o7 s)]).run prog w = .ok v w'∧R (B4 w' N) v [s]∧v.cells=#[v]∧o6 w w':=by
 obtain⟨v,w',q1,q2,q3,q5⟩:=cc4 s w (B7 w N);exact⟨v,w',q1,q2.ro (noE q3) fun b hb=>D3 fun h=>(by have:=hN b h;have:=q5 b hb;omega),D9 q2.isS,q3⟩
theorem dJ1:F3 prog 39 41 4 56=true:=by kernel_rfl
theorem dJ0:F3 prog 42 101 6 80=true:=by kernel_rfl
theorem cC0:F3 prog 43 45 13 208=true:=by kernel_rfl
theorem dJ5:F3 prog 49 68 2 24=true:=by kernel_rfl
theorem dJ6:F3 prog 23 51 5 112=true:=by kernel_rfl
theorem bs1(id kind:Int)(n:A4)(c1 c2 c3 c4:Value):C1 prog 45 [(0,.int .i64 id),(1,.int .i64 kind),(3,o7 n),(5,.agg #[c1,c2,c3,c4])]=some (.agg #[.int .i64 id,.int .i64 kind,.slice none 0 0,o7 n,o7 e0,c1,c2,c3,c4,.bool false,.slice none 0 0,.slice none 0 0,.slice none 0 0]):=by
 simp[C1,bn3,J6,Instr.fill,P7,P8,as4,P2]
theorem bs2(id kind:Int)(n q:A4)(va:Value)(hk:va.cells=#[va]):C1 prog 45 [(0,.int .i64 id),(1,.int .i64 kind),(3,o7 n),(4,o7 q),(7,va)]=some (.agg #[.int .i64 id,.int .i64 kind,.slice none 0 0,o7 n,o7 q,.int .i64 0,.int .i64 0,o7 e0,.slice none 0 0,.bool false,va,.slice none 0 0,.slice none 0 0]):=by
 simp[C1,bn3,J6,Instr.fill,P7,P8,P2,hk]
theorem bs3(id kind:Int)(c1 c2 c3 c4:Value):C1 prog 45 [(0,.int .i64 id),(1,.int .i64 kind),(5,.agg #[c1,c2,c3,c4])]=some (.agg #[.int .i64 id,.int .i64 kind,.slice none 0 0,o7 e0,o7 e0,c1,c2,c3,c4,.bool false,.slice none 0 0,.slice none 0 0,.slice none 0 0]):=by
 simp[C1,bn3,J6,Instr.fill,P7,as4,P2]
theorem bs4(id kind:Int)(n:A4):C1 prog 45 [(0,.int .i64 id),(1,.int .i64 kind),(3,o7 n)]=some (.agg #[.int .i64 id,.int .i64 kind,.slice none 0 0,o7 n,o7 e0,.int .i64 0,.int .i64 0,o7 e0,.slice none 0 0,.bool false,.slice none 0 0,.slice none 0 0,.slice none 0 0]):=by
 simp[C1,bn3,J6,Instr.fill,P7,P8,P2]
theorem bs5(id kind:Int)(c1 c2 c3 c4 vt:Value)(hk:vt.cells=#[vt]):C1 prog 45 [(0,.int .i64 id),(1,.int .i64 kind),(5,.agg #[c1,c2,c3,c4]),(8,vt)]=some (.agg #[.int .i64 id,.int .i64 kind,.slice none 0 0,o7 e0,o7 e0,c1,c2,c3,c4,.bool false,.slice none 0 0,vt,.slice none 0 0]):=by
 simp[C1,bn3,J6,Instr.fill,P7,as4,P2,hk]
theorem bs6(id kind:Int)(c1 c2 c3 c4:Value):C1 prog 45 [(0,.int .i64 id),(1,.int .i64 kind),(6,.bool true),(5,.agg #[c1,c2,c3,c4])]=some (.agg #[.int .i64 id,.int .i64 kind,.slice none 0 0,o7 e0,o7 e0,c1,c2,c3,c4,.bool true,.slice none 0 0,.slice none 0 0,.slice none 0 0]):=by
 simp[C1,bn3,J6,Instr.fill,P7,aK4,as4,P2]
theorem ba1(c1 c2 c3 c4:Value):C1 prog 101 [(2,.agg #[c1,c2,c3,c4])]=some (.agg #[.bool false,o7 e0,c1,c2,c3,c4]):=by
 simp[C1,bX1,J6,Instr.fill,as4,P2]
theorem ba2(n:A4):C1 prog 101 [(0,.bool true),(1,o7 n)]=some (.agg #[.bool true,o7 n,.int .i64 0,.int .i64 0,o7 e0,.slice none 0 0]):=by
 simp[C1,bX1,J6,Instr.fill,aK4,P8,P2]
theorem bp1(n:A4)(v3 v4:Value)(hk:v3.cells=#[v3])(hk2:v4.cells=#[v4]):C1 prog 51 [(0,o7 n),(2,v3),(3,v4)]=some (.agg #[o7 n,.slice none 0 0,v3,v4,.slice none 0 0]):=by
 simp[C1,cH1,J6,Instr.fill,P8,P2,hk,hk2]
theorem bp2(n:A4)(v2 v4 v5:Value)(hk:v2.cells=#[v2])(hk2:v4.cells=#[v4])(hk3:v5.cells=#[v5]):C1 prog 51 [(0,o7 n),(1,v2),(4,v5),(3,v4)]=some (.agg #[o7 n,v2,.slice none 0 0,v4,v5]):=by
 simp[C1,cH1,J6,Instr.fill,P8,P2,hk,hk2,hk3]
theorem bq1(n:A4):C1 prog 68 [(0,o7 n)]=some (.agg #[o7 n,.bool false]):=by
 simp[C1,ce5,J6,Instr.fill,P8,P2]
theorem bq2(n:A4):C1 prog 68 [(0,o7 n),(1,.bool true)]=some (.agg #[o7 n,.bool true]):=by
 simp[C1,ce5,J6,Instr.fill,aK4,P8,P2]
theorem bg1(v1 v2:Value)(hk:v1.cells=#[v1])(hk2:v2.cells=#[v2]):C1 prog 25 [(0,v1),(1,v2)]=some (.agg #[v1,v2]):=by
 simp[C1,cZ6,J6,Instr.fill,hk,hk2]
theorem ce0{N:Nat→Prop}(op:Int)(a b:Ex)(a1 a2 a3 a4 b1 b2 b3 b4:Value)(w:World)(hN:∀b,N b→b<w.heap.size)(ha:SV (B4 w N) (.agg #[a1,a2,a3,a4]) a)(hb:SV (B4 w N) (.agg #[b1,b2,b3,b4]) b):
  Calls prog 51 #[.int .i64 op,.agg #[a1,a2,a3,a4],.agg #[b1,b2,b3,b4]] w fun e w'=>∃u,e = .returned u∧(∃vk,u = .agg #[.int .i64 op,.int .i64 0,o7 e0,vk]∧R (B4 w' N) vk [a,b]∧o6 w w'):=by
 refine d9 (args:=[.int .i64 op,.agg #[a1,a2,a3,a4],.agg #[b1,b2,b3,b4]]) hm func51 rfl (by kernel_rfl) (by show 3≤_;decide +kernel) ?_;obtain⟨d1,w1,hb1,hx1,hat1⟩:=bd0 (w:=w) (fun _=>False) ha (fun b h=>h.elim);obtain⟨d2,w2,hb2,hx2,hat2⟩:=bd0 (w:=w1) (fun _=>False) (hb.mono (noE hx1)) (fun b h=>h.elim);obtain⟨w3,hgt,hal,hx3,hend⟩:=cB4 w2;have hx23:=hx2.trans hx3;have hno:∀{w w':World},o6 w w'→B3 (B4 w fun _=>False) (d7 w'):=fun{w w'} hx=>p9 (B7 _ _) (b7 hx);have l1:=(J7.ex_v ha hat1).1 w3 (hno hx23);have l2:=(J7.ex_v (hb.mono (noE hx1)) hat2).1 w3 (hno hx3);have hx02:=hx1.trans hx2;obtain⟨vk,w4,q1,_,q3,q4,q5,q6⟩:=cY1 (P:=prog) dJ1 rfl (w:=w3) (h:=B4 w2 N) (xs:=[.agg #[a1,a2,a3,a4],.agg #[b1,b2,b3,b4]]) (ys:=[a,b]) (parts:=#[(0,.agg #[a1,a2,a3,a4]),(1,.agg #[b1,b2,b3,b4])]) (n:=2) rfl ⟨ha.mono (noE hx02),hb.mono (noE hx02),trivial⟩ rfl (by simp) (by simp) (p9 (B7 _ _) (b7 hx3));have h1c:=W2 q5.isS;obtain⟨w5,e1,e2,e3,e4⟩:=hend w4 #[.int .i64 op,.int .i64 0,o7 Go.Proofs.YtcbnbgpphippoaaGreat.e0,vk] (by rw[ap0];rfl) (fun u hu=>by
  simp only[ex6,eB0,eG9]at hu;rcases hu with rfl|rfl|rfl|rfl
  ·rfl
  ·rfl
  ·rfl
  ·exact h1c) q4
 have hbd:=cq4 op vk q3;simp only[m8,n9,simprocAttr,hb1,hb2,hal,l1,l2,q1,hbd,e1];refine L8 results51 (ad:=⟨w2.heap.size,0,none⟩) (by simp only[p7,simprocAttr]) e2 ?_;refine⟨vk,rfl,?_,(hx1.trans hx2).trans e3⟩;refine(q5.mod e4 fun b h1 h2=>(by have h3:=q6 b h1;omega)).ro (noE e3) fun b hb=>D3 fun h=>?_;have h3:=q6 b hb;have h4:=hN b h;have h5:=hx02.size;omega
theorem dI4(w:World):∃w0,w.heap.size<w0.heap.size∧(Instr.alloc 25 true (.tuple #[])).run prog w = .ok (.pointer (some ⟨w.heap.size,0,none⟩)) w0∧o6 w w0∧∀(w':World) (cs:Array Value),cs.size=E4 prog 25→(∀u∈cs.toList,u.oneCell'=true)→o6 w0 w' →
  ∃w'',(Instr.storeAt 25 (.pointer (some ⟨w.heap.size,0,none⟩)) (.agg cs)).run prog w' = .ok () w''∧(Instr.loadAt 25 (.pointer (some ⟨w.heap.size,0,none⟩))).run prog w'' = .ok (.agg cs) w''∧o6 w w''∧o9 (fun b=>b=w.heap.size) w' w'':=
 cB3 da5 (by rw[bw6];rfl) (by simp[Value.cells,Value.oneCell']) ce1 ce6 ce3 w
theorem cX2:ag2 prog 49=true:=by kernel_rfl
theorem bI4:ag2 prog 50=true:=by kernel_rfl
theorem dF3:ag2 prog 51=true:=by kernel_rfl
theorem em3:Value.string ⟨#[118]⟩=o7 sV:=rfl
theorem em2:Value.string ⟨#[103]⟩=o7 sG:=rfl
theorem dI6:Value.string ⟨#[112]⟩=o7 sP:=rfl
theorem dI7:Value.string ⟨#[120]⟩=o7 sX:=rfl
theorem dI8:Value.string ⟨#[121]⟩=o7 sY:=rfl
theorem em1:Value.string ⟨#[101]⟩=o7 sE:=rfl
theorem cY9:Value.string ⟨#[109,97,105,110]⟩=o7 R3:=rfl
theorem cp5(w:World):Calls prog 30 #[] w fun e w'=>∃u,e = .returned u∧(SV (d7 w') u ao7∧o6 w w'):=by
 refine d9 (args:=[]) hm func30 rfl (by kernel_rfl) (by show 0≤_;decide +kernel) ?_;obtain⟨w0,hgt,hal,hx0,hend⟩:=dI4 w;have hN:∀{w':World},o6 w0 w'→∀b,b=w.heap.size→b<w'.heap.size:=fun{w'} hx b hb=>by have:=hx.size;omega
 obtain⟨v1,w1,q1,r1,k1,x1⟩:=de7 sV (N:=fun b=>b=w.heap.size) w0 (hN (o9.refl _));simp only[m8,simprocAttr,hal,em3,em2,dI6,dI7,dI8,em1,cY9,q1];refine B8 cX2 (bB3 2 w1) (fun w2 x2=>?_);simp only[m8,simprocAttr,bs1];refine B8 cX2 (bB3 3 w2) (fun w3 x3=>?_);have y3:=(x1.trans x2).trans x3;obtain⟨v4,w4,q4,r4,k4,x4,_,_⟩:=cl2 (P:=prog) (α:=Ar) dJ0 rfl (N:=fun b=>b=w.heap.size) (w:=w3) (hN y3) (xs:=[.agg #[.bool false,o7 e0,.int .i64 1,.int .i64 3,o7 e0,.slice none 0 0],.agg #[.bool true,o7 sV,.int .i64 0,.int .i64 0,o7 e0,.slice none 0 0]]) (ys:=[⟨false,e0,aX8 3⟩,⟨true,sV,.mk 0 0 e0 []⟩]) (parts:=#[(0,.agg #[.bool false,o7 e0,.int .i64 1,.int .i64 3,o7 e0,.slice none 0 0]),(1,.agg #[.bool true,o7 sV,.int .i64 0,.int .i64 0,o7 e0,.slice none 0 0])]) (n:=2) rfl ⟨cZ4 (aq7 I1),cZ4 (aq7 I1),trivial⟩ rfl (by simp) (by simp);have y4:=y3.trans x4;simp only[m8,simprocAttr,ba1,ba2,q4,bs2 _ _ _ _ _ k4];refine B8 bI4 (al3 sV w4) (fun w5 x5=>?_);simp only[m8,simprocAttr,bs3];refine B8 bI4 (al3 sG w5) (fun w6 x6=>?_);have y6:=(y4.trans x5).trans x6;have r4':=z7.mono (noE (x5.trans x6)) r4;obtain⟨v7,w7,q7,r7,k7,x7,_,_⟩:=cl2 (P:=prog) (α:=St) cC0 rfl (N:=fun b=>b=w.heap.size) (w:=w6) (hN y6) (xs:=[.agg #[.int .i64 1,.int .i64 1,.slice none 0 0,o7 sV,o7 e0,.int .i64 1,.int .i64 2,o7 e0,.slice none 0 0,.bool false,.slice none 0 0,.slice none 0 0,.slice none 0 0],.agg #[.int .i64 2,.int .i64 4,.slice none 0 0,o7 sG,o7 sP,.int .i64 0,.int .i64 0,o7 e0,.slice none 0 0,.bool false,v4,.slice none 0 0,.slice none 0 0],.agg #[.int .i64 3,.int .i64 3,.slice none 0 0,o7 e0,o7 e0,.int .i64 2,.int .i64 0,o7 sV,.slice none 0 0,.bool false,.slice none 0 0,.slice none 0 0,.slice none 0 0],.agg #[.int .i64 4,.int .i64 3,.slice none 0 0,o7 e0,o7 e0,.int .i64 2,.int .i64 0,o7 sG,.slice none 0 0,.bool false,.slice none 0 0,.slice none 0 0,.slice none 0 0]]) (ys:=[.mk 1 1 [] sV e0 (aX8 2) false [] [] [],.mk 2 4 [] sG sP (.mk 0 0 e0 []) false [⟨false,e0,aX8 3⟩,⟨true,sV,.mk 0 0 e0 []⟩] [] [],.mk 3 3 [] e0 e0 (Z9 sV) false [] [] [],.mk 4 3 [] e0 e0 (Z9 sG) false [] [] []]) (parts:=#[(0,.agg #[.int .i64 1,.int .i64 1,.slice none 0 0,o7 sV,o7 e0,.int .i64 1,.int .i64 2,o7 e0,.slice none 0 0,.bool false,.slice none 0 0,.slice none 0 0,.slice none 0 0]),(1,.agg #[.int .i64 2,.int .i64 4,.slice none 0 0,o7 sG,o7 sP,.int .i64 0,.int .i64 0,o7 e0,.slice none 0 0,.bool false,v4,.slice none 0 0,.slice none 0 0]),(2,.agg #[.int .i64 3,.int .i64 3,.slice none 0 0,o7 e0,o7 e0,.int .i64 2,.int .i64 0,o7 sV,.slice none 0 0,.bool false,.slice none 0 0,.slice none 0 0,.slice none 0 0]),(3,.agg #[.int .i64 4,.int .i64 3,.slice none 0 0,o7 e0,o7 e0,.int .i64 2,.int .i64 0,o7 sG,.slice none 0 0,.bool false,.slice none 0 0,.slice none 0 0,.slice none 0 0])]) (n:=4) rfl ⟨bb0 I1 (aq7 I1) I1 I1 I1,bb0 I1 (aq7 I1) r4' I1 I1,bb0 I1 (aq7 I1) I1 I1 I1,bb0 I1 (aq7 I1) I1 I1 I1,trivial⟩ rfl (by simp) (by simp);have y7:=y6.trans x7;have hsv1:SV (B4 w7 fun b=>b=w.heap.size) (.agg #[o7 R3,.slice none 0 0,v1,v7,.slice none 0 0]) bl8:=cZ5 I1 (z7.mono (noE (((((x2.trans x3).trans x4).trans x5).trans x6).trans x7)) r1) r7 I1;obtain⟨d1,wz8,w8,hal8,hst8,x8,hat8⟩:=aS2 (w:=w7) (fun b=>b=w.heap.size) hsv1 (hN y7);have y8:=y7.trans x8;obtain⟨v9,w9,q9,r9,k9,x9,_,_⟩:=cl2 (P:=prog) (α:=Pa) dJ5 rfl (N:=fun b=>b=w.heap.size) (w:=w8) (hN y8) (xs:=[.agg #[o7 sX,.bool false],.agg #[o7 sY,.bool true]]) (ys:=[⟨sX,false⟩,⟨sY,true⟩]) (parts:=#[(0,.agg #[o7 sX,.bool false]),(1,.agg #[o7 sY,.bool true])]) (n:=2) rfl ⟨⟨_,rfl,rfl⟩,⟨_,rfl,rfl⟩,trivial⟩ rfl (by simp) (by simp);have y9:=y8.trans x9;obtain⟨v10,w10,q10,r10,k10,x10⟩:=de7 sE (N:=fun b=>b=w.heap.size) w9 (hN y9);have y10:=y9.trans x10;simp only[m8,simprocAttr,bs3,q7,bp1 _ _ _ k1 k7,hal8,hst8,bq1,bq2,q9,q10];refine B8 bI4 (al3 sY w10) (fun w11 x11=>?_);simp only[m8,simprocAttr];refine B8 bI4 (al3 sX w11) (fun w12 x12=>?_);have y12:=(y10.trans x11).trans x12;simp only[m8,simprocAttr];refine y5 dF3 (ce0 (N:=fun b=>b=w.heap.size) 8 (Z9 sY) (Z9 sX) _ _ _ _ _ _ _ _ w12 (hN y12) (aq7 I1) (aq7 I1)) ?_;rintro _ w13 ⟨v13,rfl,r13,x13⟩;have y13:=y12.trans x13;simp only[m8,simprocAttr,bs1];refine B8 bI4 (al3 sY w13) (fun w14 x14=>?_);simp only[m8,simprocAttr];refine B8 cX2 (bB3 9 w14) (fun w15 x15=>?_);have y15:=(y13.trans x14).trans x15;simp only[m8,simprocAttr];refine y5 dF3 (ce0 (N:=fun b=>b=w.heap.size) 12 (Z9 sY) (aX8 9) _ _ _ _ _ _ _ _ w15 (hN y15) (aq7 I1) (aq7 I1)) ?_;rintro _ w16 ⟨v16,rfl,r16,x16⟩;have y16:=y15.trans x16;obtain⟨v17,w17,q17,r17,k17,x17,_,_⟩:=cl2 (P:=prog) (α:=St) cC0 rfl (N:=fun b=>b=w.heap.size) (w:=w16) (hN y16) (xs:=[.agg #[.int .i64 7,.int .i64 10,.slice none 0 0,o7 sE,o7 e0,.int .i64 0,.int .i64 0,o7 e0,.slice none 0 0,.bool false,.slice none 0 0,.slice none 0 0,.slice none 0 0]]) (ys:=[.mk 7 10 [] sE e0 (.mk 0 0 e0 []) false [] [] []]) (parts:=#[(0,.agg #[.int .i64 7,.int .i64 10,.slice none 0 0,o7 sE,o7 e0,.int .i64 0,.int .i64 0,o7 e0,.slice none 0 0,.bool false,.slice none 0 0,.slice none 0 0,.slice none 0 0])]) (n:=1) rfl ⟨bb0 I1 (aq7 I1) I1 I1 I1,trivial⟩ rfl (by simp) (by simp);have y17:=y16.trans x17;simp only[m8,simprocAttr,bs4,q17,bs5 _ _ _ _ _ _ _ k17];refine B8 bI4 (al3 sY w17) (fun w18 x18=>?_);have y18:=y17.trans x18;have r17':=z7.mono (noE x18) r17;have r16':=z7.mono (noE (x17.trans x18)) r16;have r13':=z7.mono (noE ((((x14.trans x15).trans x16).trans x17).trans x18)) r13;obtain⟨v19,w19,q19,r19,k19,x19,_,_⟩:=cl2 (P:=prog) (α:=St) cC0 rfl (N:=fun b=>b=w.heap.size) (w:=w18) (hN y18) (xs:=[.agg #[.int .i64 5,.int .i64 1,.slice none 0 0,o7 sY,o7 e0,.int .i64 8,.int .i64 0,o7 e0,v13,.bool false,.slice none 0 0,.slice none 0 0,.slice none 0 0],.agg #[.int .i64 6,.int .i64 5,.slice none 0 0,o7 e0,o7 e0,.int .i64 12,.int .i64 0,o7 e0,v16,.bool false,.slice none 0 0,v17,.slice none 0 0],.agg #[.int .i64 8,.int .i64 9,.slice none 0 0,o7 e0,o7 e0,.int .i64 2,.int .i64 0,o7 sY,.slice none 0 0,.bool true,.slice none 0 0,.slice none 0 0,.slice none 0 0]]) (ys:=[.mk 5 1 [] sY e0 (cb2 8 (Z9 sY) (Z9 sX)) false [] [] [],.mk 6 5 [] e0 e0 (cb2 12 (Z9 sY) (aX8 9)) false [] [.mk 7 10 [] sE e0 (.mk 0 0 e0 []) false [] [] []] [],.mk 8 9 [] e0 e0 (Z9 sY) true [] [] []]) (parts:=#[(0,.agg #[.int .i64 5,.int .i64 1,.slice none 0 0,o7 sY,o7 e0,.int .i64 8,.int .i64 0,o7 e0,v13,.bool false,.slice none 0 0,.slice none 0 0,.slice none 0 0]),(1,.agg #[.int .i64 6,.int .i64 5,.slice none 0 0,o7 e0,o7 e0,.int .i64 12,.int .i64 0,o7 e0,v16,.bool false,.slice none 0 0,v17,.slice none 0 0]),(2,.agg #[.int .i64 8,.int .i64 9,.slice none 0 0,o7 e0,o7 e0,.int .i64 2,.int .i64 0,o7 sY,.slice none 0 0,.bool true,.slice none 0 0,.slice none 0 0,.slice none 0 0])]) (n:=3) rfl ⟨bb0 I1 (aq7 r13') I1 I1 I1,bb0 I1 (aq7 r16') I1 r17' I1,bb0 I1 (aq7 I1) I1 I1 I1,trivial⟩ rfl (by simp) (by simp);have y19:=y18.trans x19;have z9:o6 w9 w19:=((((((((x10.trans x11).trans x12).trans x13).trans x14).trans x15).trans x16).trans x17).trans x18).trans x19;have z10:o6 w10 w19:=(((((((x11.trans x12).trans x13).trans x14).trans x15).trans x16).trans x17).trans x18).trans x19;have hsv2:SV (B4 w19 fun b=>b=w.heap.size) (.agg #[o7 sP,v9,.slice none 0 0,v19,v10]) bl9:=cZ5 (z7.mono (noE z9) r9) I1 r19 (z7.mono (noE z10) r10);obtain⟨d2,wz20,w20,hal20,hst20,x20,hat20⟩:=aS2 (w:=w19) (fun b=>b=w.heap.size) hsv2 (hN y19);have y20:=y19.trans x20;obtain⟨v21,w21,q21,r21,k21,x21⟩:=de7 sG (N:=fun b=>b=w.heap.size) w20 (hN y20);have y21:=y20.trans x21;have z8:o6 w8 w21:=((x9.trans z9).trans x20).trans x21;have l1:=(J7.pr_v hsv1 hat8).1 w21 (p9 (noE z8) (B7 _ _));have l2:=(J7.pr_v hsv2 hat20).1 w21 (p9 (noE x21) (B7 _ _));obtain⟨v22,w22,q22,r22,k22,x22,_,_⟩:=cl2 (P:=prog) (α:=Pr) dJ6 rfl (N:=fun b=>b=w.heap.size) (w:=w21) (hN y21) (xs:=[.agg #[o7 R3,.slice none 0 0,v1,v7,.slice none 0 0],.agg #[o7 sP,v9,.slice none 0 0,v19,v10]]) (ys:=[bl8,bl9]) (parts:=#[(0,.agg #[o7 R3,.slice none 0 0,v1,v7,.slice none 0 0]),(1,.agg #[o7 sP,v9,.slice none 0 0,v19,v10])]) (n:=2) rfl ⟨hsv1.mono (noE (x8.trans z8)),hsv2.mono (noE (x20.trans x21)),trivial⟩ rfl (by simp) (by simp);have y22:=y21.trans x22;have r21':=z7.mono (noE x22) r21;have h21c:=X2 r21;have h22c:=X2 r22;obtain⟨w23,e1,e2,e3,e4⟩:=hend w22 #[v21,v22] (by rw[bw6];rfl) (fun u hu=>by
  simp only[ex6,eB0,eG9]at hu;rcases hu with rfl|rfl
  ·exact h21c
  ·exact h22c) y22
 simp only[m8,simprocAttr,bs6,q19,bp2 _ _ _ _ k9 k19 k10,hal20,hst20,q21,l1,l2,q22,bg1 _ _ k21 k22,e1];refine L8 results30 (ad:=⟨w.heap.size,0,none⟩) (by simp only[p7,simprocAttr]) e2 ?_;refine⟨?_,e3⟩;have hh:B3 (B4 w22 fun b=>b=w.heap.size) (d7 w23):=K7 (B7 _ _) e4 fun b hb=>H8 hb;exact dJ9 (z7.mono hh r21') (z7.mono hh r22)
theorem dE8:ag2 prog 11=true:=by kernel_rfl
theorem dE9:ag2 prog 13=true:=by kernel_rfl
theorem eq7:ag2 prog 18=true:=by kernel_rfl
theorem eq8:ag2 prog 19=true:=by kernel_rfl
theorem dF0:ag2 prog 27=true:=by kernel_rfl
theorem eq9:ag2 prog 30=true:=by kernel_rfl
theorem er0:ag2 prog 31=true:=by kernel_rfl
theorem bd7:D0 ao7≤1000000:=by decide +kernel
theorem cC1:(ai1 ao7 sP).length≤1000000000∧(bm6 ao7 sP).length≤1000000000∧(bh0 ao7 sP).length≤1000000000:=by decide +kernel
theorem ch4(q:A4)(k d:Int):C1 prog 36 [(0,o7 q),(1,.int .i64 k),(2,.int .i64 d)]=some (.agg (A0.cells (⟨q,k,d,e0⟩:Vx)).toArray):=by
 have hfc:A0.cells (⟨q,k,d,e0⟩:Vx)=[o7 q,.int .i64 k,.int .i64 d,o7 e0]:=rfl;rw[hfc];simp[C1,bO2,J6,Instr.fill,P7,P8,P2]
theorem ch5(q:A4)(k:Int)(n:A4):C1 prog 36 [(0,o7 q),(1,.int .i64 k),(3,o7 n)]=some (.agg (A0.cells (⟨q,k,0,n⟩:Vx)).toArray):=by
 have hfc:A0.cells (⟨q,k,0,n⟩:Vx)=[o7 q,.int .i64 k,.int .i64 0,o7 n]:=rfl;rw[hfc];simp[C1,bO2,J6,Instr.fill,P7,P8,P2]
theorem ch6(q:A4)(k:Int):C1 prog 36 [(0,o7 q),(1,.int .i64 k)]=some (.agg (A0.cells (⟨q,k,0,e0⟩:Vx)).toArray):=by
 have hfc:A0.cells (⟨q,k,0,e0⟩:Vx)=[o7 q,.int .i64 k,.int .i64 0,o7 e0]:=rfl;rw[hfc];simp[C1,bO2,J6,Instr.fill,P7,P8,P2]
theorem em4:Value.string ⟨#[36,114,101,116]⟩=o7 M2:=rfl
theorem bp5(w:World):Calls prog 7 #[] w fun e w'=>∃u,e = .returned u∧(u = .bool true∧o6 w w'):=by
 refine d9 (args:=[]) hm func7 rfl (by kernel_rfl) (by show 0≤_;decide +kernel) ?_;simp only[m8,simprocAttr];refine y5 eq9 (cp5 w) ?_;rintro u w1 ⟨hu,hx1⟩;obtain⟨d,wz,w2,hal,hst,hx2,hat⟩:=cV2 hu (i4 _);obtain⟨sp,hsp,ldp,_⟩:=hat.pg_v;have l2:=ldp w2 (i4 _);simp only[m8,simprocAttr,hal,hst,l2,dI6];refine y5 dE9 (aP8 sp ao7 sP w2 hsp bd7) ?_;rintro ue w3 ⟨hoe,hx3⟩;have l3:=ldp w3 (b7 hx3);simp only[m8,simprocAttr,l3];refine y5 eq7 (bC2 sp ao7 sP w3 (hsp.mono (b7 hx3)) bd7) ?_;rintro ut w4 ⟨hot,hx4⟩;rw[bV6]at hot;obtain⟨u5,w5,q5,o5,x5,_⟩:=cy7 sX sY w4 (i4 _);simp only[m8,simprocAttr,dI7,dI8,q5];refine B8 dF0 (aX7 ut u5 [sX,sY] [sX,sY] w5 ((hot.ext x5).rw_ (b7 (hx4.trans x5))) (o5.rw_ (b7 x5)) (by simp)) (fun w6 hx6=>?_);have hx36:=(hx4.trans x5).trans hx6;have hx26:=hx3.trans hx36;have l6:=ldp w6 (b7 hx26);simp only[m8,n9,simprocAttr,l6];refine y5 eq8 (bC1 sp ao7 sP w6 (hsp.mono (b7 hx26)) bd7) ?_;rintro ug w7 ⟨hog,hx7⟩;rw[bV5]at hog;obtain⟨u8,w8,q8,o8,x8,_⟩:=cy7 M2 sY w7 (i4 _);simp only[m8,simprocAttr,em4,q8];refine B8 dF0 (aX7 ug u8 [M2,sY] [M2,sY] w8 ((hog.ext x8).rw_ (b7 (hx7.trans x8))) (o8.rw_ (b7 x8)) (by simp)) (fun w9 hx9=>?_);have hx29:=((hx26.trans hx7).trans x8).trans hx9;have l9:=ldp w9 (b7 hx29);simp only[m8,n9,simprocAttr,l9,cY9];refine y5 dE8 (az0 sp ao7 R3 w9 (hsp.mono (b7 hx29)) bd7) ?_;rintro uv w10 ⟨hov,hx10⟩;have hSv:=hov.isS;have hnv:=hov.vlen;rw[bV7]at hnv;have hx210:=hx29.trans hx10;have hx310:=(((hx36.trans hx7).trans x8).trans hx9).trans hx10;have hoe10:=(hoe.ext hx310).rw_ (b7 hx210);have b1:=ch4 sP 2 5;have b2:=ch5 sP 4 sY;simp only[m8,n9,simprocAttr,hSv,hnv,b1,b2];refine B8 er0 (bL5 ue (ai1 ao7 sP) ⟨sP,2,5,e0⟩ ⟨sP,4,0,sY⟩ 2 w10 hoe10 cC1.1) (fun w11 hx11=>?_);have hany:(ai1 ao7 sP).any (ae8 ⟨sP,2,5,e0⟩ ⟨sP,4,0,sY⟩ 2)=true:=eH6.2 ⟨_,ex7.1 cn4,rfl⟩;simp only[m8,simprocAttr,hany];refine n8 results7 ?_;simp only[p7,simprocAttr];exact⟨by trivial,(hx1.trans hx2).trans (hx210.trans hx11)⟩
theorem er1:ag2 prog 36=true:=by kernel_rfl
theorem er2:ag2 prog 37=true:=by kernel_rfl
theorem cY8(x y:Vx)(w:World):Calls prog 95 #[.agg (A0.cells x).toArray,.agg (A0.cells y).toArray] w fun e w'=>∃u,e = .returned u∧(u = .bool (cY0 x y)∧o6 w w'):=by
 refine d9 (args:=[.agg (A0.cells x).toArray,.agg (A0.cells y).toArray]) hm func95 rfl (by kernel_rfl) (by show 2≤_;decide +kernel) ?_;obtain⟨d1,w1,hb1,hx1,hat1⟩:=aF2 (SV.ofN (d7 w) x) (i4 _);obtain⟨d2,w2,hb2,hx2,hat2⟩:=aF2 (SV.ofN (d7 w1) y) (i4 _);have l1:=hat1.vx.1 w2 (b7 hx2);have l2:=hat2.vx.1 w2 (i4 _);have hx:=hx1.trans hx2;unfold cY0;rcases ev5 (decide (x.proc=y.proc))with h1|h1;rotate_left
 ·rw[if_pos (ew0 h1)];simp only[m8,n9,simprocAttr,hb1,hb2,l1,l2,h1];refine n8 results95 ?_;simp only[p7,simprocAttr];exact⟨by trivial,hx⟩
 rw[if_neg (by simpa using ev8 h1)];rcases ev5 (decide (x.kind=y.kind))with h2|h2;rotate_left
 ·rw[if_pos (ew0 h2)];simp only[m8,n9,simprocAttr,hb1,hb2,l1,l2,h1,h2];refine n8 results95 ?_;simp only[p7,simprocAttr];exact⟨by trivial,hx⟩
 rw[if_neg (by simpa using ev8 h2)];rcases ev5 (decide (x.id=y.id))with h3|h3;rotate_left
 ·rw[if_pos (ew0 h3)];simp only[m8,n9,simprocAttr,hb1,hb2,l1,l2,h1,h2,h3];refine n8 results95 ?_;simp only[p7,simprocAttr];exact⟨by trivial,hx⟩
 rw[if_neg (by simpa using ev8 h3)];simp only[m8,n9,simprocAttr,hb1,hb2,l1,l2,h1,h2,h3];refine n8 results95 ?_;simp only[p7,simprocAttr];exact⟨by trivial,hx⟩
theorem cm5(v:Value)(l:List Vx)(x:Vx)(w:World)(hv:R (d7 w) v l)(hl:l.length≤1000000000):
  Calls prog 15 #[v,.agg (A0.cells x).toArray] w fun e w'=>∃u,e = .returned u∧(u = .bool (l.contains x)∧o6 w w'):=by
 refine d9 (args:=[v,.agg (A0.cells x).toArray]) hm func15 rfl (by kernel_rfl) (by show 2≤_;decide +kernel) ?_;have hS:=hv.isS;have hn:=hv.vlen;obtain⟨d1,w1,hb1,hx1,hat1⟩:=aF2 (SV.ofN (d7 w) x) (i4 _);obtain⟨sv1,hsv1,_,sd1⟩:=hat1.vx_v;obtain rfl:=hsv1.N;simp only[m8,n9,simprocAttr,hb1,hS,hn];refine n7 [0,3,6,7] (σ:=Nat) (fun i f w'=>f 8 = .int .i64 i∧i≤l.length∧(∀j y,j<i→l[j]?=some y→y≠x)∧o6 w1 w') (fun i=>l.length-i) 0 (by decide +kernel) ?_ ?_
 ·simp only[p7,simprocAttr];exact⟨by trivial,ew6 _,fun j _ h=>by omega,o9.refl _⟩
 rintro i f w2 hk ⟨h8,hil,hno,hx2⟩;simp only[ev6,p7,simprocAttr]at hk;obtain⟨e0,e3,e6,e7,_⟩:=hk;simp only[m8,n9,simprocAttr,h8,e7];refine i5 (fun hc=>?_) (fun hc=>?_);rotate_left
 ·have hge:i=l.length:=by simp at hc;omega
  subst hge;simp only[m8,simprocAttr];refine n8 results15 ?_;simp only[p7,simprocAttr];refine⟨?_,hx1.trans hx2⟩;have:l.contains x=false:=by
   rw[eG1];intro h;obtain⟨j,hj⟩:=eD3.1 (ex7.1 h);exact hno j x (ev9.1 hj).1 hj rfl
  rw[this]
 have hlt:i<l.length:=by simpa using hc
 have hin:=hv.inS hlt;have hx2d:=hx2.trans (o6.drew w2);have hat:=hv.at_ (i:=i) (x:=l[i]) (ev4 hlt);have hz4:z7.sz Vx=4:=rfl;rw[hz4]at hat;obtain⟨sv,hsv,_,sde⟩:=hat.vx_v;obtain rfl:=hsv.N;have t1:=sde (fun w'=>o6 w2.drew w') w2.drew (o9.refl _) fun w' h=>b7 (hx1.trans (hx2d.trans h));have t2:=sd1 (fun w'=>o6 w2.drew w') w2.drew (o9.refl _) fun w' h=>b7 (hx2d.trans h);have hql:=fun w0 a b=>bz9 w0 a b l[i] x;have hin2:l[i]=x→l.contains x=true:=fun e=>ex7.2 (e ▸ ew4 hlt);have hno2:l[i]≠x→∀j y,j<i+1→l[j]?=some y→y≠x:=fun hne j y hj hy=>by
  rcases ez4 j i with h|h
  ·exact hno j y h hy
  ·obtain rfl:j=i:=by omega
   rw[ev4 hlt]at hy;obtain rfl:=ex1 hy;exact hne
 rcases ev5 (decide (l[i]=x))with hq|hq
 ·simp only[m8,simprocAttr,h8];refine C5 (fun w'=>o6 w2.drew w') 5 (B0 [0,1,2,3,4]) (by decide +kernel) (o9.refl _) ?_;simp only[D6,B0,m8,n9,y0,simprocAttr,e0,e3,hin,t1,t2];simp only[m8,simprocAttr,O3,A0.cells,hql,hq];refine n8 results15 ?_;simp only[p7,simprocAttr];exact⟨by rw[hin2 (ev8 hq)],hx1.trans hx2d⟩
 ·simp only[m8,simprocAttr,h8];refine C5 (fun w'=>o6 w2.drew w') 5 (B0 [0,1,2,3,4]) (by decide +kernel) (o9.refl _) ?_;simp only[D6,B0,m8,n9,y0,simprocAttr,e0,e3,hin,t1,t2];simp only[m8,n9,simprocAttr,O3,A0.cells,hql,hq,h8];exact⟨i+1,by omega,by rw[B1 i (by omega)],by omega,hno2 (ew0 hq),hx2d⟩
def aH0(p:Pg)(n:Int):A4:=(p.procs.getD (bj0 n p.procs.length).toNat bp9).name
theorem cd0{n m:Int}(h:0<m):0≤bj0 n m∧bj0 n m<m:=by
 unfold bj0;rw[if_neg (by omega)];have h1:=Int.tmod_lt_of_pos n h;have h2 : -m<n.tmod m:=by
  have:=Int.lt_tmod_of_pos n h;exact this
 split<;>omega
theorem bq3(v:Value)(p:Pg)(n:Int)(w:World)(hv:SV (d7 w) v p)(h0:0<p.procs.length)(hl:p.procs.length≤1000000000):
  Calls prog 10 #[v,.int .i64 n] w fun e w'=>∃u,e = .returned u∧(u=o7 (aH0 p n)∧o6 w w'):=by
 refine d9 (args:=[v,.int .i64 n]) hm func10 rfl (by kernel_rfl) (by show 2≤_;decide +kernel) ?_;obtain⟨c,w1,hbx,hx1,hatp⟩:=V0 hv (i4 _);obtain⟨vg,vp,hvg,hvp,ldp,sdp⟩:=hatp.pg;have l1:=ldp w1 (i4 _);have hSp:=hvp.isS;have hnp:=hvp.vlen;have hrg:=cd0 (n:=n) (m:=(p.procs.length:Int)) (by omega);obtain⟨k,hk⟩:∃k:Nat,bj0 n (p.procs.length:Int)=(k:Int):=⟨(bj0 n (p.procs.length:Int)).toNat,by omega⟩;have hkl:k<p.procs.length:=by omega
 have hF:aH0 p n=p.procs[k].name:=by
  unfold aH0;rw[hk,ex8,List.getD,ev4 hkl];rfl
 have hin:=hvp.inS (k:=k) hkl;have hat:=hvp.at_ (i:=k) (x:=p.procs[k]) (ev4 hkl);have hz5:z7.sz Pr=5:=rfl;rw[hz5]at hat;obtain⟨_,_,_,_,_,_,_,_,ldr,sdr⟩:=hat.pr;have t1:=sdp (fun w'=>o6 w1.drew w') w1.drew (o9.refl _) fun w' h=>b7 ((o6.drew w1).trans h);have t2:=sdr (fun w'=>o6 w1.drew w') w1.drew (o9.refl _) fun w' h=>b7 ((o6.drew w1).trans h);have lr:=ldr w1.drew (b7 (o6.drew w1));have hm1:=cO4 n (p.procs.length:Int) w1.drew (by omega);rw[hk]at hm1;rw[hF];generalize p.procs[k].name=nm at lr t2;generalize hz:((p.procs.length:Nat):Int)=L at hnp hm1;have h00:decide (L=0)=false:=eG0 (by omega);simp only[m8,n9,simprocAttr,hbx,l1,hSp,hnp,hz,h00];refine C5 (fun w'=>o6 w1.drew w') 7 (B0 [0,1,2,3,4,5,6]) (by decide +kernel) (o9.refl _) ?_;simp only[D6,B0,m8,n9,simprocAttr,t1,hSp,hnp,hz];refine D2 er2 hm1 ⟨o9.refl _,?_⟩;simp only[D6,m8,n9,y0,simprocAttr,hin,lr];refine n8 results10 ?_;simp only[p7,simprocAttr];exact⟨by trivial,hx1.trans (o6.drew w1)⟩
theorem bM8(v:Value)(p:Pg)(most:Int)(w:World)(hv:SV (d7 w) v p)(hw:D0 p≤1000000):
  Calls prog 9 #[v,.int .i64 most] w fun e w'=>∃u,e = .returned u∧(u = .bool (T2 p&&decide ((bF7 p:Int)≤most))∧o6 w w'):=by
 refine d9 (args:=[v,.int .i64 most]) hm func9 rfl (by kernel_rfl) (by show 2≤_;decide +kernel) ?_;obtain⟨c,w1,hbx,hx1,hatp⟩:=V0 hv (i4 _);obtain⟨sp,hsp,ldsp,_⟩:=hatp.pg_v;have l1:=ldsp w1 (i4 _);simp only[m8,n9,simprocAttr,hbx,l1];refine B8 dF1 (aM9 sp p w1 hsp hw) (fun w2 hx2=>?_);rcases ev5 (T2 p)with h1|h1;rotate_left
 ·simp only[m8,simprocAttr,h1];refine n8 results9 ?_;simp only[p7,simprocAttr];exact⟨by trivial,hx1.trans hx2⟩
 have l2:=ldsp w2 (b7 hx2);simp only[m8,n9,simprocAttr,h1,l2];refine B8 er1 (cf5 sp p w2 (hsp.mono (b7 hx2)) hw) (fun w3 hx3=>?_);simp only[m8,n9,simprocAttr];refine n8 results9 ?_;simp only[p7,simprocAttr];exact⟨by trivial,(hx1.trans hx2).trans hx3⟩
end Go.Proofs.YtcbnbgpphippoaaGreat

/- What the functions of the program do, for every input; plain facts. No condition, no statement of its own. Part 7. -/
import Derived.Test.YtpebpfiglfmegaaGreatZ6
set_option maxRecDepth 1000000
set_option maxHeartbeats 8000000
set_option linter.unusedVariables false
set_option linter.unusedSimpArgs false
set_option linter.unnecessarySimpa false
set_option linter.defProp false
namespace Go.Proofs.YtpebpfiglfmegaaGreat
open Go Tryz
structure Im where
 s:St
 deep:Int
 up:Int
 els:Bool
instance:A9 Im where
 sz:=16
 pos:=om
 enc h cs p:=∃c,cs=c++[.int .i64 p.deep,.int .i64 p.up,.bool p.els]/\A9.enc h c p.s
 len:=by rintro h cs a ⟨c,rfl,h1⟩;have h4:c.length=13:=A9.len h1;simp[h4]
 mono:=by rintro h k cs a hk ⟨c,rfl,h1⟩;exact⟨c,rfl,A9.mono hk h1⟩
 one:=by
  rintro h cs a ⟨c,rfl,h1⟩ v hv;simp only[eE0,eF0,eH6,eM0]at hv;rcases hv with hv|rfl|rfl|rfl
  .exact A9.one h1 v hv
  all_goals rfl
end Go.Proofs.YtpebpfiglfmegaaGreat

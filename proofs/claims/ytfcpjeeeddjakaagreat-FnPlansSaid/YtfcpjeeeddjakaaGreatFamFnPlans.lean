/- What the law's own helpers do: they measure, copy, compare, mark. Plain lemmas, no condition. -/
import Derived.Test.YtfcpjeeeddjakaaGreatGhostFnPlans
import Derived.Test.YtfcpjeeeddjakaaGreatZMark
namespace Go.Proofs.YtfcpjeeeddjakaaGreat.FamFnPlans
open Go.RowKit YtfcpjeeeddjakaaGreatW.PrintWords YtfcpjeeeddjakaaGreatW.PrintLast ZOpen Z F
open SaidFnPlans ZP
set_option linter.unusedVariables false
set_option linter.unusedSimpArgs false
set_option maxRecDepth 100000
def sm125 (x:S125):Prop:=True∧x.f1.size≤1048576∧x.f2.size≤1048576∧True∧True∧x.f5.size≤1048576∧True∧True∧True∧(x.f9.length≤1048576∧∀e∈x.f9,True)∧(x.f10.length≤1048576∧∀e∈x.f10,e.size≤1048576)∧(x.f11.length≤1048576∧∀e∈x.f11,e.size≤1048576)∧x.f12.size≤1048576∧True
def sm103 (x:S103):Prop:=x.f0.size≤1048576∧True∧True∧True∧True∧(x.f5.length≤1048576∧∀e∈x.f5,True)∧x.f6.size≤1048576∧True
def sm105 (x:S105):Prop:=x.f0.size≤1048576∧x.f1.size≤1048576∧True
def sm48 (x:S48):Prop:=(x.f0.length≤1048576∧∀e∈x.f0,sm125 e)∧(x.f1.length≤1048576∧∀e∈x.f1,sm103 e)∧(x.f2.length≤1048576∧∀e∈x.f2,sm105 e)∧True
def sm37 (x:S37):Prop:=True∧(x.f1.length≤1048576∧∀e∈x.f1,True)∧True∧True∧True∧True
def sm39 (x:S39):Prop:=True∧(x.f1.length≤1048576∧∀e∈x.f1,True)∧sm37 x.f2∧True
theorem rd125 (x:List S125)(i:Nat)(h:i<x.length):rd_T125 x (i:Int)=x[i]:=by simp [rd_T125,h]
theorem rd103 (x:List S103)(i:Nat)(h:i<x.length):rd_T103 x (i:Int)=x[i]:=by simp [rd_T103,h]
theorem rd39 (x:List S39)(i:Nat)(h:i<x.length):rd_T39 x (i:Int)=x[i]:=by simp [rd_T39,h]
end Go.Proofs.YtfcpjeeeddjakaaGreat.FamFnPlans

/- What the law's own helpers do: they measure, copy, compare, mark. Plain lemmas, no condition. -/
import Derived.Test.YtncddikfafgklaaGreatDoorSaidFnExactWaysTo
import Derived.Test.YtncddikfafgklaaGreatDoorZMark
namespace Go.Proofs.YtncddikfafgklaaGreatDoor.FamFnExactWaysTo
open Go.RowKit YtncddikfafgklaaGreatDoorW.PrintWords YtncddikfafgklaaGreatDoorW.PrintLast ZOpen Z F
open SaidFnExactWaysTo ZP
set_option linter.unusedVariables false
set_option linter.unusedSimpArgs false
set_option maxRecDepth 100000
theorem rdI (x:List Int)(i:Nat)(h:i<x.length):rd x (i:Int)=x[i]:=by simp [rd,h]
theorem szw_39 (l:(List Int))(hl:okList (okInt .i64) l)(b:Int)(h0:0≤b)(h1:b≤1048576)(k:Nat)(hk:0≤k):∃n,laws_szIntS.f l b=some n∧n≤b∧(0≤n→(l.length≤1048576∧∀e∈l,True)∧n+(((l.length:Nat):Int):Int)=b):=by
  have hll:l.length≤maxLen:=hl.1
  have hm:maxLen=9223372036854775807:=rfl
  have e:wrap64 (b - (l.length:Int))=b - (l.length:Int):=by unfold wrap64;omega
  unfold laws_szIntS.f
  rw [e]
  by_cases c:b - (l.length:Int)<0
  · rw [if_pos c];exact⟨-1,rfl,by omega,fun h=>by omega⟩
  rw [if_neg c]
  exact⟨_,rfl,by omega,fun h=>⟨⟨by omega,fun e he=>trivial⟩,by omega⟩⟩
theorem rdS (x:List ByteArray)(i:Nat)(h:i<x.length):rdOf ByteArray.empty x (i:Int)=x[i]:=by simp [rdOf,h]
theorem szw_40 (l:(List ByteArray))(hl:okList okStr l)(b:Int)(h0:0≤b)(h1:b≤1048576)(k:Nat)(hk:1048577≤k):∃n,laws_szStringS.f k l b=some n∧n≤b∧(0≤n→(l.length≤1048576∧∀e∈l,e.size≤1048576)∧n+((((l.length+(l.map ByteArray.size).sum):Nat):Int):Int)=b):=by
  have hll:l.length≤maxLen:=hl.1
  have hm:maxLen=9223372036854775807:=rfl
  have e:wrap64 (b - (l.length:Int))=b - (l.length:Int):=by unfold wrap64;omega
  unfold laws_szStringS.f
  rw [e]
  by_cases c:b - (l.length:Int)<0
  · rw [if_pos c];exact⟨-1,rfl,by omega,fun h=>by omega⟩
  rw [if_neg c]
  obtain⟨n,n1,n2,n3⟩:=sz_loop_w laws_szStringS.l0 (rdOf ByteArray.empty) (fun _ e b=>some (wrap64 (b - (e.size:Int)))) (fun e=>e.size≤1048576) ByteArray.size l 0 (by omega) (rdS l) (fun k b i=>by rw [laws_szStringS.l0];rfl) (fun k e b _ he g0 g1=>by
      have h2:e.size≤maxLen:=hl.2 e he
      exact⟨_,rfl,by unfold wrap64;omega,fun h=>⟨by unfold wrap64 at h;omega,by unfold wrap64;omega⟩⟩) k (b - (l.length:Int)) 0 (by omega) (by omega) (by omega) (by omega)
  refine⟨n,n1,by omega,fun h=>⟨⟨by omega,fun a ha=>?_⟩,?_⟩⟩
  · obtain⟨j,hj,rfl⟩:=List.getElem_of_mem ha
    exact(n3 h).1 j hj (by omega)
  · have w:=(n3 h).2
    rw [List.drop_zero] at w
    omega
def sm30 (x:S30):Prop:=True∧x.f1.size≤1048576∧x.f2.size≤1048576∧True∧True∧x.f5.size≤1048576∧True∧True∧True∧(x.f9.length≤1048576∧∀e∈x.f9,True)∧(x.f10.length≤1048576∧∀e∈x.f10,e.size≤1048576)∧(x.f11.length≤1048576∧∀e∈x.f11,e.size≤1048576)∧x.f12.size≤1048576∧True
def wt30 (x:S30):Nat:=x.f1.size+x.f2.size+x.f5.size+x.f9.length+(x.f10.length+(x.f10.map ByteArray.size).sum)+(x.f11.length+(x.f11.map ByteArray.size).sum)+x.f12.size
theorem szw_7 (x:S30)(hx:ok30 x)(b:Int)(h0:0≤b)(h1:b≤1048576)(k:Nat)(hk:1048577≤k):∃n,laws_szCert.f k x b=some n∧n≤b∧(0≤n→sm30 x∧n+(wt30 x:Int)=b):=by
  have hm:maxLen=9223372036854775807:=rfl
  unfold laws_szCert.f
  have s1:x.f1.size≤maxLen:=hx.2.1
  have e1:wrap64 (b - (x.f1.size:Int))=b - (x.f1.size:Int):=by unfold wrap64;omega
  rw [e1]
  by_cases c1:b - (x.f1.size:Int)<0
  · rw [if_pos c1];exact⟨-1,rfl,by omega,fun h=>by omega⟩
  rw [if_neg c1]
  have s2:x.f2.size≤maxLen:=hx.2.2.1
  have e2:wrap64 ((b - (x.f1.size:Int)) - (x.f2.size:Int))=(b - (x.f1.size:Int)) - (x.f2.size:Int):=by unfold wrap64;omega
  rw [e2]
  by_cases c2:(b - (x.f1.size:Int)) - (x.f2.size:Int)<0
  · rw [if_pos c2];exact⟨-1,rfl,by omega,fun h=>by omega⟩
  rw [if_neg c2]
  have s5:x.f5.size≤maxLen:=hx.2.2.2.2.2.1
  have e5:wrap64 (((b - (x.f1.size:Int)) - (x.f2.size:Int)) - (x.f5.size:Int))=((b - (x.f1.size:Int)) - (x.f2.size:Int)) - (x.f5.size:Int):=by unfold wrap64;omega
  rw [e5]
  by_cases c5:((b - (x.f1.size:Int)) - (x.f2.size:Int)) - (x.f5.size:Int)<0
  · rw [if_pos c5];exact⟨-1,rfl,by omega,fun h=>by omega⟩
  rw [if_neg c5]
  obtain⟨n9,e9,b9,p9⟩:=szw_39 x.f9 (hx.2.2.2.2.2.2.2.2.2.1) (((b - (x.f1.size:Int)) - (x.f2.size:Int)) - (x.f5.size:Int)) (by omega) (by omega) k (by omega)
  rw [e9,Option.bind_some]
  by_cases c9:n9<0
  · rw [if_pos c9];exact⟨-1,rfl,by omega,fun h=>by omega⟩
  rw [if_neg c9]
  obtain⟨n10,e10,b10,p10⟩:=szw_40 x.f10 (hx.2.2.2.2.2.2.2.2.2.2.1) n9 (by omega) (by omega) k (by omega)
  rw [e10,Option.bind_some]
  by_cases c10:n10<0
  · rw [if_pos c10];exact⟨-1,rfl,by omega,fun h=>by omega⟩
  rw [if_neg c10]
  obtain⟨n11,e11,b11,p11⟩:=szw_40 x.f11 (hx.2.2.2.2.2.2.2.2.2.2.2.1) n10 (by omega) (by omega) k (by omega)
  rw [e11,Option.bind_some]
  by_cases c11:n11<0
  · rw [if_pos c11];exact⟨-1,rfl,by omega,fun h=>by omega⟩
  rw [if_neg c11]
  have s12:x.f12.size≤maxLen:=hx.2.2.2.2.2.2.2.2.2.2.2.2
  have e12:wrap64 (n11 - (x.f12.size:Int))=n11 - (x.f12.size:Int):=by unfold wrap64;omega
  rw [e12]
  by_cases c12:n11 - (x.f12.size:Int)<0
  · rw [if_pos c12];exact⟨-1,rfl,by omega,fun h=>by omega⟩
  rw [if_neg c12]
  exact⟨(n11 - (x.f12.size:Int)),rfl,by omega,fun h=>⟨⟨trivial,(by omega),(by omega),trivial,trivial,(by omega),trivial,trivial,trivial,(p9 (by omega)).1,(p10 (by omega)).1,(p11 (by omega)).1,(by omega),trivial⟩,by have w9:=(p9 (by omega)).2;have w10:=(p10 (by omega)).2;have w11:=(p11 (by omega)).2;unfold wt30;omega⟩⟩
theorem sz_7 (x:S30)(hx:ok30 x)(b:Int)(h0:0≤b)(h1:b≤1048576)(k:Nat)(hk:1048577≤k):∃n,laws_szCert.f k x b=some n∧n≤b∧(0≤n→sm30 x):=by
  obtain⟨n,g1,g2,g3⟩:=szw_7 x hx b h0 h1 k hk
  exact⟨n,g1,g2,fun h=>(g3 h).1⟩
theorem rd30 (x:List S30)(i:Nat)(h:i<x.length):rd_T30 x (i:Int)=x[i]:=by simp [rd_T30,h]
theorem szw_36 (l:(List S30))(hl:okList ok30 l)(b:Int)(h0:0≤b)(h1:b≤1048576)(k:Nat)(hk:2097154≤k):∃n,laws_szCertS.f k l b=some n∧n≤b∧(0≤n→(l.length≤1048576∧∀e∈l,sm30 e)∧n+((((l.length+(l.map wt30).sum):Nat):Int):Int)=b):=by
  have hll:l.length≤maxLen:=hl.1
  have hm:maxLen=9223372036854775807:=rfl
  have e:wrap64 (b - (l.length:Int))=b - (l.length:Int):=by unfold wrap64;omega
  unfold laws_szCertS.f
  rw [e]
  by_cases c:b - (l.length:Int)<0
  · rw [if_pos c];exact⟨-1,rfl,by omega,fun h=>by omega⟩
  rw [if_neg c]
  obtain⟨n,n1,n2,n3⟩:=sz_loop_w laws_szCertS.l0 rd_T30 (fun k e b=>laws_szCert.f k e b) sm30 wt30 l 1048577 (by omega) (rd30 l) (fun k b i=>by rw [laws_szCertS.l0]) (fun k e b hk he g0 g1=>szw_7 e (hl.2 e he) b g0 g1 k (by omega)) k (b - (l.length:Int)) 0 (by omega) (by omega) (by omega) (by omega)
  refine⟨n,n1,by omega,fun h=>⟨⟨by omega,fun a ha=>?_⟩,?_⟩⟩
  · obtain⟨j,hj,rfl⟩:=List.getElem_of_mem ha
    exact(n3 h).1 j hj (by omega)
  · have w:=(n3 h).2
    rw [List.drop_zero] at w
    omega
def sm189 (x:S189):Prop:=True∧True∧True
theorem rd189 (x:List S189)(i:Nat)(h:i<x.length):rd_T189 x (i:Int)=x[i]:=by simp [rd_T189,h]
theorem szw_141 (l:(List S189))(hl:okList ok189 l)(b:Int)(h0:0≤b)(h1:b≤1048576)(k:Nat)(hk:0≤k):∃n,laws_szRevS.f l b=some n∧n≤b∧(0≤n→(l.length≤1048576∧∀e∈l,sm189 e)∧n+(((l.length:Nat):Int):Int)=b):=by
  have hll:l.length≤maxLen:=hl.1
  have hm:maxLen=9223372036854775807:=rfl
  have e:wrap64 (b - (l.length:Int))=b - (l.length:Int):=by unfold wrap64;omega
  unfold laws_szRevS.f
  rw [e]
  by_cases c:b - (l.length:Int)<0
  · rw [if_pos c];exact⟨-1,rfl,by omega,fun h=>by omega⟩
  rw [if_neg c]
  exact⟨_,rfl,by omega,fun h=>⟨⟨by omega,fun e he=>by simp [sm30,sm189]⟩,by omega⟩⟩
def sm124 (x:S124):Prop:=x.f0.size≤1048576∧True∧True∧True∧True∧(x.f5.length≤1048576∧∀e∈x.f5,sm189 e)∧x.f6.size≤1048576∧True
def wt124 (x:S124):Nat:=x.f0.size+x.f5.length+x.f6.size
theorem szw_93 (x:S124)(hx:ok124 x)(b:Int)(h0:0≤b)(h1:b≤1048576)(k:Nat)(hk:0≤k):∃n,laws_szCrl.f x b=some n∧n≤b∧(0≤n→sm124 x∧n+(wt124 x:Int)=b):=by
  have hm:maxLen=9223372036854775807:=rfl
  unfold laws_szCrl.f
  have s0:x.f0.size≤maxLen:=hx.1
  have e0:wrap64 (b - (x.f0.size:Int))=b - (x.f0.size:Int):=by unfold wrap64;omega
  rw [e0]
  by_cases c0:b - (x.f0.size:Int)<0
  · rw [if_pos c0];exact⟨-1,rfl,by omega,fun h=>by omega⟩
  rw [if_neg c0]
  obtain⟨n5,e5,b5,p5⟩:=szw_141 x.f5 (hx.2.2.2.2.2.1) (b - (x.f0.size:Int)) (by omega) (by omega) k (by omega)
  rw [e5,Option.bind_some]
  by_cases c5:n5<0
  · rw [if_pos c5];exact⟨-1,rfl,by omega,fun h=>by omega⟩
  rw [if_neg c5]
  have s6:x.f6.size≤maxLen:=hx.2.2.2.2.2.2
  have e6:wrap64 (n5 - (x.f6.size:Int))=n5 - (x.f6.size:Int):=by unfold wrap64;omega
  rw [e6]
  by_cases c6:n5 - (x.f6.size:Int)<0
  · rw [if_pos c6];exact⟨-1,rfl,by omega,fun h=>by omega⟩
  rw [if_neg c6]
  exact⟨(n5 - (x.f6.size:Int)),rfl,by omega,fun h=>⟨⟨(by omega),trivial,trivial,trivial,trivial,(p5 (by omega)).1,(by omega),trivial⟩,by have w5:=(p5 (by omega)).2;unfold wt124;omega⟩⟩
theorem rd124 (x:List S124)(i:Nat)(h:i<x.length):rd_T124 x (i:Int)=x[i]:=by simp [rd_T124,h]
theorem szw_37 (l:(List S124))(hl:okList ok124 l)(b:Int)(h0:0≤b)(h1:b≤1048576)(k:Nat)(hk:1048577≤k):∃n,laws_szCrlS.f k l b=some n∧n≤b∧(0≤n→(l.length≤1048576∧∀e∈l,sm124 e)∧n+((((l.length+(l.map wt124).sum):Nat):Int):Int)=b):=by
  have hll:l.length≤maxLen:=hl.1
  have hm:maxLen=9223372036854775807:=rfl
  have e:wrap64 (b - (l.length:Int))=b - (l.length:Int):=by unfold wrap64;omega
  unfold laws_szCrlS.f
  rw [e]
  by_cases c:b - (l.length:Int)<0
  · rw [if_pos c];exact⟨-1,rfl,by omega,fun h=>by omega⟩
  rw [if_neg c]
  obtain⟨n,n1,n2,n3⟩:=sz_loop_w laws_szCrlS.l0 rd_T124 (fun k e b=>laws_szCrl.f e b) sm124 wt124 l 0 (by omega) (rd124 l) (fun k b i=>by rw [laws_szCrlS.l0]) (fun k e b hk he g0 g1=>szw_93 e (hl.2 e he) b g0 g1 k (by omega)) k (b - (l.length:Int)) 0 (by omega) (by omega) (by omega) (by omega)
  refine⟨n,n1,by omega,fun h=>⟨⟨by omega,fun a ha=>?_⟩,?_⟩⟩
  · obtain⟨j,hj,rfl⟩:=List.getElem_of_mem ha
    exact(n3 h).1 j hj (by omega)
  · have w:=(n3 h).2
    rw [List.drop_zero] at w
    omega
def sm126 (x:S126):Prop:=x.f0.size≤1048576∧x.f1.size≤1048576∧True
def wt126 (x:S126):Nat:=x.f0.size+x.f1.size
theorem szw_94 (x:S126)(hx:ok126 x)(b:Int)(h0:0≤b)(h1:b≤1048576)(k:Nat)(hk:0≤k):∃n,laws_szAnchor.f x b=some n∧n≤b∧(0≤n→sm126 x∧n+(wt126 x:Int)=b):=by
  have hm:maxLen=9223372036854775807:=rfl
  unfold laws_szAnchor.f
  have s0:x.f0.size≤maxLen:=hx.1
  have e0:wrap64 (b - (x.f0.size:Int))=b - (x.f0.size:Int):=by unfold wrap64;omega
  rw [e0]
  by_cases c0:b - (x.f0.size:Int)<0
  · rw [if_pos c0];exact⟨-1,rfl,by omega,fun h=>by omega⟩
  rw [if_neg c0]
  have s1:x.f1.size≤maxLen:=hx.2
  have e1:wrap64 ((b - (x.f0.size:Int)) - (x.f1.size:Int))=(b - (x.f0.size:Int)) - (x.f1.size:Int):=by unfold wrap64;omega
  rw [e1]
  by_cases c1:(b - (x.f0.size:Int)) - (x.f1.size:Int)<0
  · rw [if_pos c1];exact⟨-1,rfl,by omega,fun h=>by omega⟩
  rw [if_neg c1]
  exact⟨((b - (x.f0.size:Int)) - (x.f1.size:Int)),rfl,by omega,fun h=>⟨⟨(by omega),(by omega),trivial⟩,by unfold wt126;omega⟩⟩
theorem rd126 (x:List S126)(i:Nat)(h:i<x.length):rd_T126 x (i:Int)=x[i]:=by simp [rd_T126,h]
theorem szw_38 (l:(List S126))(hl:okList ok126 l)(b:Int)(h0:0≤b)(h1:b≤1048576)(k:Nat)(hk:1048577≤k):∃n,laws_szAnchorS.f k l b=some n∧n≤b∧(0≤n→(l.length≤1048576∧∀e∈l,sm126 e)∧n+((((l.length+(l.map wt126).sum):Nat):Int):Int)=b):=by
  have hll:l.length≤maxLen:=hl.1
  have hm:maxLen=9223372036854775807:=rfl
  have e:wrap64 (b - (l.length:Int))=b - (l.length:Int):=by unfold wrap64;omega
  unfold laws_szAnchorS.f
  rw [e]
  by_cases c:b - (l.length:Int)<0
  · rw [if_pos c];exact⟨-1,rfl,by omega,fun h=>by omega⟩
  rw [if_neg c]
  obtain⟨n,n1,n2,n3⟩:=sz_loop_w laws_szAnchorS.l0 rd_T126 (fun k e b=>laws_szAnchor.f e b) sm126 wt126 l 0 (by omega) (rd126 l) (fun k b i=>by rw [laws_szAnchorS.l0]) (fun k e b hk he g0 g1=>szw_94 e (hl.2 e he) b g0 g1 k (by omega)) k (b - (l.length:Int)) 0 (by omega) (by omega) (by omega) (by omega)
  refine⟨n,n1,by omega,fun h=>⟨⟨by omega,fun a ha=>?_⟩,?_⟩⟩
  · obtain⟨j,hj,rfl⟩:=List.getElem_of_mem ha
    exact(n3 h).1 j hj (by omega)
  · have w:=(n3 h).2
    rw [List.drop_zero] at w
    omega
def sm26 (x:S26):Prop:=(x.f0.length≤1048576∧∀e∈x.f0,sm30 e)∧(x.f1.length≤1048576∧∀e∈x.f1,sm124 e)∧(x.f2.length≤1048576∧∀e∈x.f2,sm126 e)∧True
def wt26 (x:S26):Nat:=(x.f0.length+(x.f0.map wt30).sum)+(x.f1.length+(x.f1.map wt124).sum)+(x.f2.length+(x.f2.map wt126).sum)
theorem szw_6 (x:S26)(hx:ok26 x)(b:Int)(h0:0≤b)(h1:b≤1048576)(k:Nat)(hk:2097154≤k):∃n,laws_szStore.f k x b=some n∧n≤b∧(0≤n→sm26 x∧n+(wt26 x:Int)=b):=by
  have hm:maxLen=9223372036854775807:=rfl
  unfold laws_szStore.f
  obtain⟨n0,e0,b0,p0⟩:=szw_36 x.f0 (hx.1) b (by omega) (by omega) k (by omega)
  rw [e0,Option.bind_some]
  by_cases c0:n0<0
  · rw [if_pos c0];exact⟨-1,rfl,by omega,fun h=>by omega⟩
  rw [if_neg c0]
  obtain⟨n1,e1,b1,p1⟩:=szw_37 x.f1 (hx.2.1) n0 (by omega) (by omega) k (by omega)
  rw [e1,Option.bind_some]
  by_cases c1:n1<0
  · rw [if_pos c1];exact⟨-1,rfl,by omega,fun h=>by omega⟩
  rw [if_neg c1]
  obtain⟨n2,e2,b2,p2⟩:=szw_38 x.f2 (hx.2.2) n1 (by omega) (by omega) k (by omega)
  rw [e2,Option.bind_some]
  by_cases c2:n2<0
  · rw [if_pos c2];exact⟨-1,rfl,by omega,fun h=>by omega⟩
  rw [if_neg c2]
  exact⟨n2,rfl,by omega,fun h=>⟨⟨(p0 (by omega)).1,(p1 (by omega)).1,(p2 (by omega)).1,trivial⟩,by have w0:=(p0 (by omega)).2;have w1:=(p1 (by omega)).2;have w2:=(p2 (by omega)).2;unfold wt26;omega⟩⟩
theorem sz_6 (x:S26)(hx:ok26 x)(b:Int)(h0:0≤b)(h1:b≤1048576)(k:Nat)(hk:2097154≤k):∃n,laws_szStore.f k x b=some n∧n≤b∧(0≤n→sm26 x):=by
  obtain⟨n,g1,g2,g3⟩:=szw_6 x hx b h0 h1 k hk
  exact⟨n,g1,g2,fun h=>(g3 h).1⟩
theorem to_46 (x:(List Int))(h:(x.length≤1048576∧∀e∈x,True))(k:Nat)(hk:1048577≤k):laws_toIntS.f k x=some x:=by
  have hx:=h.1
  unfold laws_toIntS.f
  rw [if_pos (by omega),if_pos (by omega)]
  have:=to_loop laws_toIntS.l0 rd (fun _ e=>some e) id x 0 hx (rdI x) (fun k y i=>by rw [laws_toIntS.l0];rfl) (fun _ _ _ _=>rfl) k (List.replicate x.length (0:Int)) 0 (by omega) (by simp) rfl (by omega)
  simpa using this
theorem to_47 (x:(List ByteArray))(h:(x.length≤1048576∧∀e∈x,e.size≤1048576))(k:Nat)(hk:1048577≤k):laws_toStringS.f k x=some x:=by
  have hx:=h.1
  unfold laws_toStringS.f
  rw [if_pos (by omega),if_pos (by omega)]
  have:=to_loop laws_toStringS.l0 (rdOf ByteArray.empty) (fun _ e=>some e) id x 0 hx (rdS x) (fun k y i=>by rw [laws_toStringS.l0];rfl) (fun _ _ _ _=>rfl) k (List.replicate x.length (⟨#[]⟩:ByteArray)) 0 (by omega) (by simp) rfl (by omega)
  simpa using this
def cv30 (x:S30):S41:=⟨x.f0,x.f1,x.f2,x.f3,x.f4,x.f5,x.f6,x.f7,x.f8,x.f9,x.f10,x.f11,x.f12⟩
def sm41 (x:S41):Prop:=True∧x.f1.size≤1048576∧x.f2.size≤1048576∧True∧True∧x.f5.size≤1048576∧True∧True∧True∧(x.f9.length≤1048576∧∀e∈x.f9,True)∧(x.f10.length≤1048576∧∀e∈x.f10,e.size≤1048576)∧(x.f11.length≤1048576∧∀e∈x.f11,e.size≤1048576)∧x.f12.size≤1048576∧True
theorem to_10 (x:S30)(h:sm30 x)(k:Nat)(hk:1048577≤k):laws_toCert.f k x=some (cv30 x):=by
  unfold laws_toCert.f
  simp only [to_46 x.f9 h.2.2.2.2.2.2.2.2.2.1 k (by omega),to_47 x.f10 h.2.2.2.2.2.2.2.2.2.2.1 k (by omega),to_47 x.f11 h.2.2.2.2.2.2.2.2.2.2.2.1 k (by omega),Option.bind_some]
  rfl
theorem smcv30 (x:S30)(h:sm30 x):sm41 (cv30 x):=⟨h.1,h.2.1,h.2.2.1,h.2.2.2.1,h.2.2.2.2.1,h.2.2.2.2.2.1,h.2.2.2.2.2.2.1,h.2.2.2.2.2.2.2.1,h.2.2.2.2.2.2.2.2.1,h.2.2.2.2.2.2.2.2.2.1,h.2.2.2.2.2.2.2.2.2.2.1,h.2.2.2.2.2.2.2.2.2.2.2.1,h.2.2.2.2.2.2.2.2.2.2.2.2.1,trivial⟩
theorem to_43 (x:(List S30))(h:(x.length≤1048576∧∀e∈x,sm30 e))(k:Nat)(hk:2097154≤k):laws_toCertS.f k x=some (x.map cv30):=by
  have hx:=h.1
  unfold laws_toCertS.f
  rw [if_pos (by omega),if_pos (by omega)]
  have:=to_loop laws_toCertS.l0 rd_T30 (fun k e=>laws_toCert.f k e) cv30 x 1048577 hx (rd30 x) (fun k y i=>by rw [laws_toCertS.l0]) (fun k e hk he=>to_10 e (h.2 e he) k (by omega)) k (List.replicate x.length z41) 0 (by omega) (by simp) rfl (by omega)
  simpa using this
def cv189 (x:S189):S163:=⟨x.f0,x.f1⟩
def sm163 (x:S163):Prop:=True∧True∧True
theorem to_172 (x:S189)(h:sm189 x)(k:Nat)(hk:0≤k):laws_toRev.f x=some (cv189 x):=by
  unfold laws_toRev.f
  rfl
theorem smcv189 (x:S189)(h:sm189 x):sm163 (cv189 x):=⟨h.1,h.2.1,trivial⟩
theorem to_142 (x:(List S189))(h:(x.length≤1048576∧∀e∈x,sm189 e))(k:Nat)(hk:1048577≤k):laws_toRevS.f k x=some (x.map cv189):=by
  have hx:=h.1
  unfold laws_toRevS.f
  rw [if_pos (by omega),if_pos (by omega)]
  have:=to_loop laws_toRevS.l0 rd_T189 (fun k e=>laws_toRev.f e) cv189 x 0 hx (rd189 x) (fun k y i=>by rw [laws_toRevS.l0]) (fun k e hk he=>to_172 e (h.2 e he) k (by omega)) k (List.replicate x.length z163) 0 (by omega) (by simp) rfl (by omega)
  simpa using this
def cv124 (x:S124):S69:=⟨x.f0,x.f1,x.f2,x.f3,x.f4,(x.f5.map cv189),x.f6⟩
def sm69 (x:S69):Prop:=x.f0.size≤1048576∧True∧True∧True∧True∧(x.f5.length≤1048576∧∀e∈x.f5,sm163 e)∧x.f6.size≤1048576∧True
theorem to_102 (x:S124)(h:sm124 x)(k:Nat)(hk:1048577≤k):laws_toCrl.f k x=some (cv124 x):=by
  unfold laws_toCrl.f
  simp only [to_142 x.f5 h.2.2.2.2.2.1 k (by omega),Option.bind_some]
  rfl
theorem smcv124 (x:S124)(h:sm124 x):sm69 (cv124 x):=⟨h.1,h.2.1,h.2.2.1,h.2.2.2.1,h.2.2.2.2.1,⟨by show(List.map cv189 _).length≤_;rw [List.length_map];exact h.2.2.2.2.2.1.1,fun e he=>by
  obtain⟨a,ha,rfl⟩:=List.mem_map.1 he
  exact smcv189 a (h.2.2.2.2.2.1.2 a ha)⟩,h.2.2.2.2.2.2.1,trivial⟩
theorem to_44 (x:(List S124))(h:(x.length≤1048576∧∀e∈x,sm124 e))(k:Nat)(hk:2097154≤k):laws_toCrlS.f k x=some (x.map cv124):=by
  have hx:=h.1
  unfold laws_toCrlS.f
  rw [if_pos (by omega),if_pos (by omega)]
  have:=to_loop laws_toCrlS.l0 rd_T124 (fun k e=>laws_toCrl.f k e) cv124 x 1048577 hx (rd124 x) (fun k y i=>by rw [laws_toCrlS.l0]) (fun k e hk he=>to_102 e (h.2 e he) k (by omega)) k (List.replicate x.length z69) 0 (by omega) (by simp) rfl (by omega)
  simpa using this
def cv126 (x:S126):S57:=⟨x.f0,x.f1⟩
def sm57 (x:S57):Prop:=x.f0.size≤1048576∧x.f1.size≤1048576∧True
theorem to_103 (x:S126)(h:sm126 x)(k:Nat)(hk:0≤k):laws_toAnchor.f x=some (cv126 x):=by
  unfold laws_toAnchor.f
  rfl
theorem smcv126 (x:S126)(h:sm126 x):sm57 (cv126 x):=⟨h.1,h.2.1,trivial⟩
theorem to_45 (x:(List S126))(h:(x.length≤1048576∧∀e∈x,sm126 e))(k:Nat)(hk:1048577≤k):laws_toAnchorS.f k x=some (x.map cv126):=by
  have hx:=h.1
  unfold laws_toAnchorS.f
  rw [if_pos (by omega),if_pos (by omega)]
  have:=to_loop laws_toAnchorS.l0 rd_T126 (fun k e=>laws_toAnchor.f e) cv126 x 0 hx (rd126 x) (fun k y i=>by rw [laws_toAnchorS.l0]) (fun k e hk he=>to_103 e (h.2 e he) k (by omega)) k (List.replicate x.length z57) 0 (by omega) (by simp) rfl (by omega)
  simpa using this
def cv26 (x:S26):S39:=⟨(x.f0.map cv30),(x.f1.map cv124),(x.f2.map cv126)⟩
def sm39 (x:S39):Prop:=(x.f0.length≤1048576∧∀e∈x.f0,sm41 e)∧(x.f1.length≤1048576∧∀e∈x.f1,sm69 e)∧(x.f2.length≤1048576∧∀e∈x.f2,sm57 e)∧True
theorem to_9 (x:S26)(h:sm26 x)(k:Nat)(hk:2097154≤k):laws_toStore.f k x=some (cv26 x):=by
  unfold laws_toStore.f
  simp only [to_43 x.f0 h.1 k (by omega),to_44 x.f1 h.2.1 k (by omega),to_45 x.f2 h.2.2.1 k (by omega),Option.bind_some]
  rfl
theorem smcv26 (x:S26)(h:sm26 x):sm39 (cv26 x):=⟨⟨by show(List.map cv30 _).length≤_;rw [List.length_map];exact h.1.1,fun e he=>by
  obtain⟨a,ha,rfl⟩:=List.mem_map.1 he
  exact smcv30 a (h.1.2 a ha)⟩,⟨by show(List.map cv124 _).length≤_;rw [List.length_map];exact h.2.1.1,fun e he=>by
  obtain⟨a,ha,rfl⟩:=List.mem_map.1 he
  exact smcv124 a (h.2.1.2 a ha)⟩,⟨by show(List.map cv126 _).length≤_;rw [List.length_map];exact h.2.2.1.1,fun e he=>by
  obtain⟨a,ha,rfl⟩:=List.mem_map.1 he
  exact smcv126 a (h.2.2.1.2 a ha)⟩,trivial⟩
theorem eq_54 (x:(List Int))(h:(x.length≤1048576∧∀e∈x,True))(k:Nat)(hk:1048577≤k):laws_eqIntS.f k x x=some true:=by
  have hx:=h.1
  unfold laws_eqIntS.f
  rw [if_pos rfl]
  exact eq_loop laws_eqIntS.l0 rd (fun _ _=>some true) x 0 hx (rdI x) (fun k i=>by rw [laws_eqIntS.l0];simp) (fun _ _ _ _=>rfl) k 0 (by omega) (by omega)
theorem eq_55 (x:(List ByteArray))(h:(x.length≤1048576∧∀e∈x,e.size≤1048576))(k:Nat)(hk:1048577≤k):laws_eqStringS.f k x x=some true:=by
  have hx:=h.1
  unfold laws_eqStringS.f
  rw [if_pos rfl]
  exact eq_loop laws_eqStringS.l0 (rdOf ByteArray.empty) (fun _ _=>some true) x 0 hx (rdS x) (fun k i=>by rw [laws_eqStringS.l0];simp) (fun _ _ _ _=>rfl) k 0 (by omega) (by omega)
theorem eq_14 (x:S41)(h:sm41 x)(k:Nat)(hk:1048577≤k):laws_eqCert.f k x x=some true:=by
  unfold laws_eqCert.f
  simp [eq_54 x.f9 h.2.2.2.2.2.2.2.2.2.1 k (by omega),eq_55 x.f10 h.2.2.2.2.2.2.2.2.2.2.1 k (by omega),eq_55 x.f11 h.2.2.2.2.2.2.2.2.2.2.2.1 k (by omega)]
theorem rd41 (x:List S41)(i:Nat)(h:i<x.length):rd_T41 x (i:Int)=x[i]:=by simp [rd_T41,h]
theorem eq_51 (x:(List S41))(h:(x.length≤1048576∧∀e∈x,sm41 e))(k:Nat)(hk:2097154≤k):laws_eqCertS.f k x x=some true:=by
  have hx:=h.1
  unfold laws_eqCertS.f
  rw [if_pos rfl]
  exact eq_loop laws_eqCertS.l0 rd_T41 (fun k e=>laws_eqCert.f k e e) x 1048577 hx (rd41 x) (fun k i=>by rw [laws_eqCertS.l0]) (fun k e hk he=>eq_14 e (h.2 e he) k (by omega)) k 0 (by omega) (by omega)
def sm59 (x:S59):Prop:=True∧(x.f1.length≤1048576∧∀e∈x.f1,sm41 e)∧True
theorem eq_50 (x:S59)(h:sm59 x)(k:Nat)(hk:2097154≤k):laws_eqWay.f k x x=some true:=by
  unfold laws_eqWay.f
  simp [eq_51 x.f1 h.2.1 k (by omega)]
theorem rd59 (x:List S59)(i:Nat)(h:i<x.length):rd_T59 x (i:Int)=x[i]:=by simp [rd_T59,h]
theorem eq_12 (x:(List S59))(h:(x.length≤1048576∧∀e∈x,sm59 e))(k:Nat)(hk:3145731≤k):laws_eqWayS.f k x x=some true:=by
  have hx:=h.1
  unfold laws_eqWayS.f
  rw [if_pos rfl]
  exact eq_loop laws_eqWayS.l0 rd_T59 (fun k e=>laws_eqWay.f k e e) x 2097154 hx (rd59 x) (fun k i=>by rw [laws_eqWayS.l0]) (fun k e hk he=>eq_50 e (h.2 e he) k (by omega)) k 0 (by omega) (by omega)
theorem eq_174 (x:S163)(h:sm163 x)(k:Nat)(hk:0≤k):laws_eqRev.f x x=some true:=by
  unfold laws_eqRev.f
  simp []
theorem rd163 (x:List S163)(i:Nat)(h:i<x.length):rd_T163 x (i:Int)=x[i]:=by simp [rd_T163,h]
theorem eq_145 (x:(List S163))(h:(x.length≤1048576∧∀e∈x,sm163 e))(k:Nat)(hk:1048577≤k):laws_eqRevS.f k x x=some true:=by
  have hx:=h.1
  unfold laws_eqRevS.f
  rw [if_pos rfl]
  exact eq_loop laws_eqRevS.l0 rd_T163 (fun k e=>laws_eqRev.f e e) x 0 hx (rd163 x) (fun k i=>by rw [laws_eqRevS.l0]) (fun k e hk he=>eq_174 e (h.2 e he) k (by omega)) k 0 (by omega) (by omega)
theorem eq_110 (x:S69)(h:sm69 x)(k:Nat)(hk:1048577≤k):laws_eqCrl.f k x x=some true:=by
  unfold laws_eqCrl.f
  simp [eq_145 x.f5 h.2.2.2.2.2.1 k (by omega)]
theorem rd69 (x:List S69)(i:Nat)(h:i<x.length):rd_T69 x (i:Int)=x[i]:=by simp [rd_T69,h]
theorem eq_52 (x:(List S69))(h:(x.length≤1048576∧∀e∈x,sm69 e))(k:Nat)(hk:2097154≤k):laws_eqCrlS.f k x x=some true:=by
  have hx:=h.1
  unfold laws_eqCrlS.f
  rw [if_pos rfl]
  exact eq_loop laws_eqCrlS.l0 rd_T69 (fun k e=>laws_eqCrl.f k e e) x 1048577 hx (rd69 x) (fun k i=>by rw [laws_eqCrlS.l0]) (fun k e hk he=>eq_110 e (h.2 e he) k (by omega)) k 0 (by omega) (by omega)
theorem eq_111 (x:S57)(h:sm57 x)(k:Nat)(hk:0≤k):laws_eqAnchor.f x x=some true:=by
  unfold laws_eqAnchor.f
  simp []
theorem rd57 (x:List S57)(i:Nat)(h:i<x.length):rd_T57 x (i:Int)=x[i]:=by simp [rd_T57,h]
theorem eq_53 (x:(List S57))(h:(x.length≤1048576∧∀e∈x,sm57 e))(k:Nat)(hk:1048577≤k):laws_eqAnchorS.f k x x=some true:=by
  have hx:=h.1
  unfold laws_eqAnchorS.f
  rw [if_pos rfl]
  exact eq_loop laws_eqAnchorS.l0 rd_T57 (fun k e=>laws_eqAnchor.f e e) x 0 hx (rd57 x) (fun k i=>by rw [laws_eqAnchorS.l0]) (fun k e hk he=>eq_111 e (h.2 e he) k (by omega)) k 0 (by omega) (by omega)
theorem eq_13 (x:S39)(h:sm39 x)(k:Nat)(hk:2097154≤k):laws_eqStore.f k x x=some true:=by
  unfold laws_eqStore.f
  simp [eq_51 x.f0 h.1 k (by omega),eq_52 x.f1 h.2.1 k (by omega),eq_53 x.f2 h.2.2.1 k (by omega)]
theorem mk_59 (x:(List Int))(h:(x.length≤1048576∧∀e∈x,True))(m:Int)(h0:0<m)(h1:m+1048577≤4611686018427387904)(k:Nat)(hk:1048577≤k):∃m2 r,laws_markIntS.f k x m=some (m2,r)∧m≤m2∧m2≤m+1048577∧(∀k,1048577≤k→laws_heldIntS.f k r m=some m2):=by
  have hx:=h.1
  have hw:(1:Int) * ((x.length - 0:Nat):Int)≤1048576:=by omega
  refine Exists.elim (mark_loop True laws_markIntS.l0 laws_heldIntS.l0 x (fun e=>True) 0 1 4611686018427387903 hx (fun k l m i e hK hi hl hle hp hm0 hm1=>?_) (fun k l m=>?_) ?_ x.length k x m 0 rfl (Nat.zero_le _) rfl (fun j e _ he=>h.2 e (List.mem_of_getElem? he)) h0 (by omega) (by omega)) (fun m2 HM=>?_)
  · have c1:(i:Int)<(x.length:Int):=by omega
    have c0:0≤(i:Int):=by omega
    have ew:wrap64 ((i:Int)+1)=((i+1:Nat):Int):=by rw [w64 (by omega) (by omega)];rfl
    have re:rd l (i:Int)=e:=by rw [rdI l i (by omega)];exact Option.some.inj ((List.getElem?_eq_getElem (by omega)).symm.trans hle)
    have rs:∀y,rd (l.set i y) (i:Int)=y:=fun y=>by rw [rdI _ i (by rw [List.length_set];omega),List.getElem_set_self]
    refine⟨m,m+1,?_,by omega,by omega,fun _ k' l2 hK' hl2 he2=>?_⟩
    · rw [laws_markIntS.l0]
      simp only [lets,c1,c0,ew,re,rs,Int.toNat_natCast,List.set_set,if_true,Option.bind_some,show wrap64 (m+1)=m+1 from w64 (by omega) (by omega)]
    · have c2:(i:Int)<(l2.length:Int):=by omega
      have re2:rd l2 (i:Int)=m:=by rw [rdI l2 i (by omega)];exact Option.some.inj ((List.getElem?_eq_getElem (by omega)).symm.trans he2)
      rw [laws_heldIntS.l0]
      simp only [c2,c0,ew,re2,if_true,if_false,Option.bind_some,show wrap64 (m+1)=m+1 from w64 (by omega) (by omega)]
  · rw [laws_markIntS.l0,if_neg (by omega)]
  · intro _ k l2 m hl2
    rw [laws_heldIntS.l0,if_neg (by omega)]
  · obtain⟨r,g1,g2,g3,g4,_,g6⟩:=HM
    refine⟨m2,r,by unfold laws_markIntS.f;exact g1,g2,by omega,fun k' hk'=>by unfold laws_heldIntS.f;exact g6 trivial k' (by omega)⟩
def txt (m:Int):ByteArray:=(laws_markText.f 64 m).getD ByteArray.empty
theorem text_loop:∀(n:Nat) (m:Int) (s:ByteArray),0≤m→m≤4611686018427387904→m<10 ^ n→s.size+n≤4611686018427387904→∃t,∀k,n<k→laws_markText.l0 k m s=some t
  | 0,m,s,h0,hB,h1,hs=>by
    obtain rfl:m=0:=by omega
    have e1:(⟨#[109]⟩:ByteArray).size=1:=rfl
    refine⟨(⟨#[109]⟩:ByteArray)++s,fun k hk=>?_⟩
    obtain⟨k,rfl⟩:∃q,k=q+1:=⟨k - 1,by omega⟩
    rw [laws_markText.l0,if_neg (by omega),if_pos (by omega)]
  | n + 1, m, s, h0, hB, h1, hs => by
    by_cases c:0<m
    · have e2:(strOfNums ([((wrap64 (48+(Int.tmod m 10))) % 256)]:List Int)).size=1:=strOfNums_size _
      have e3:Int.tdiv m 10=m / 10:=Int.tdiv_eq_ediv_of_nonneg h0
      have e5:m / 10<10 ^ n:=by
        have:(10:Int) ^ (n+1)=10 ^ n * 10:=Int.pow_succ 10 n
        omega
      have hw:wrap64 (Int.tdiv m 10)=m / 10:=by rw [e3];unfold wrap64;omega
      · obtain⟨t,ht⟩:=text_loop n (m / 10) ((strOfNums ([((wrap64 (48+(Int.tmod m 10))) % 256)]:List Int))++s) (by omega) (by omega) e5 (by rw [ByteArray.size_append,e2];omega)
        refine⟨t,fun k hk=>?_⟩
        obtain⟨k,rfl⟩:∃q,k=q+1:=⟨k - 1,by omega⟩
        rw [laws_markText.l0,if_pos c,if_pos (by omega),hw]
        exact ht k (by omega)
    · obtain rfl:m=0:=by omega
      have e1:(⟨#[109]⟩:ByteArray).size=1:=rfl
      refine⟨(⟨#[109]⟩:ByteArray)++s,fun k hk=>?_⟩
      obtain⟨k,rfl⟩:∃q,k=q+1:=⟨k - 1,by omega⟩
      rw [laws_markText.l0,if_neg (by omega),if_pos (by omega)]
theorem text (m:Int)(h0:0<m)(h1:m≤4611686018427387904)(k:Nat)(hk:64≤k):laws_markText.f k m=some (txt m):=by
  obtain⟨t,ht⟩:=text_loop 19 m (⟨#[]⟩:ByteArray) (by omega) h1 (by omega) (by show 0+19≤_;omega)
  have e:∀k,64≤k→laws_markText.f k m=some t:=fun k hk=>by
    unfold laws_markText.f
    rw [if_neg (by omega)]
    exact ht k (by omega)
  rw [e k hk]
  unfold txt
  rw [e 64 (by omega)]
  rfl
theorem mk_60 (x:(List ByteArray))(h:(x.length≤1048576∧∀e∈x,e.size≤1048576))(m:Int)(h0:0<m)(h1:m+1048577≤4611686018427387904)(k:Nat)(hk:1048641≤k):∃m2 r,laws_markStringS.f k x m=some (m2,r)∧m≤m2∧m2≤m+1048577∧(∀k,1048641≤k→laws_heldStringS.f k r m=some m2):=by
  have hx:=h.1
  have hw:(1:Int) * ((x.length - 0:Nat):Int)≤1048576:=by omega
  refine Exists.elim (mark_loop True laws_markStringS.l0 laws_heldStringS.l0 x (fun e=>e.size≤1048576) 64 1 4611686018427387903 hx (fun k l m i e hK hi hl hle hp hm0 hm1=>?_) (fun k l m=>?_) ?_ x.length k x m 0 rfl (Nat.zero_le _) rfl (fun j e _ he=>h.2 e (List.mem_of_getElem? he)) h0 (by omega) (by omega)) (fun m2 HM=>?_)
  · have c1:(i:Int)<(x.length:Int):=by omega
    have c0:0≤(i:Int):=by omega
    have ew:wrap64 ((i:Int)+1)=((i+1:Nat):Int):=by rw [w64 (by omega) (by omega)];rfl
    have re:(rdOf ByteArray.empty) l (i:Int)=e:=by rw [rdS l i (by omega)];exact Option.some.inj ((List.getElem?_eq_getElem (by omega)).symm.trans hle)
    have rs:∀y,(rdOf ByteArray.empty) (l.set i y) (i:Int)=y:=fun y=>by rw [rdS _ i (by rw [List.length_set];omega),List.getElem_set_self]
    refine⟨(txt (m)),m+1,?_,by omega,by omega,fun _ k' l2 hK' hl2 he2=>?_⟩
    · rw [laws_markStringS.l0]
      simp only [lets,c1,c0,ew,re,rs,Int.toNat_natCast,List.set_set,if_true,Option.bind_some,text (m) (by omega) (by omega) k (by omega),show wrap64 (m+1)=m+1 from w64 (by omega) (by omega)]
    · have c2:(i:Int)<(l2.length:Int):=by omega
      have re2:(rdOf ByteArray.empty) l2 (i:Int)=(txt (m)):=by rw [rdS l2 i (by omega)];exact Option.some.inj ((List.getElem?_eq_getElem (by omega)).symm.trans he2)
      rw [laws_heldStringS.l0]
      simp only [c2,c0,ew,re2,if_true,if_false,Option.bind_some,text (m) (by omega) (by omega) k' (by omega),show wrap64 (m+1)=m+1 from w64 (by omega) (by omega)]
  · rw [laws_markStringS.l0,if_neg (by omega)]
  · intro _ k l2 m hl2
    rw [laws_heldStringS.l0,if_neg (by omega)]
  · obtain⟨r,g1,g2,g3,g4,_,g6⟩:=HM
    refine⟨m2,r,by unfold laws_markStringS.f;exact g1,g2,by omega,fun k' hk'=>by unfold laws_heldStringS.f;exact g6 trivial k' (by omega)⟩
theorem mk_56 (x:(List S41))(h:(x.length≤1048576∧∀e∈x,sm41 e))(m:Int)(h0:0<m)(h1:m+3298551660557≤4611686018427387904)(k:Nat)(hk:2097218≤k):∃m2 r,laws_markCertS.f k x m=some (m2,r)∧m≤m2∧m2≤m+3298551660557∧(∀k,2097218≤k→laws_heldCertS.f k r m=some m2):=by
  have hx:=h.1
  have hw:(3145741:Int) * ((x.length - 0:Nat):Int)≤3298548514816:=by omega
  refine Exists.elim (mark_loop True laws_markCertS.l0 laws_heldCertS.l0 x sm41 1048641 3145741 4611686018424242163 hx (fun k l m i e hK hi hl hle hp hm0 hm1=>?_) (fun k l m=>?_) ?_ x.length k x m 0 rfl (Nat.zero_le _) rfl (fun j e _ he=>h.2 e (List.mem_of_getElem? he)) h0 (by omega) (by omega)) (fun m2 HM=>?_)
  · have c1:(i:Int)<(x.length:Int):=by omega
    have c0:0≤(i:Int):=by omega
    have ew:wrap64 ((i:Int)+1)=((i+1:Nat):Int):=by rw [w64 (by omega) (by omega)];rfl
    have re:rd_T41 l (i:Int)=e:=by rw [rd41 l i (by omega)];exact Option.some.inj ((List.getElem?_eq_getElem (by omega)).symm.trans hle)
    obtain⟨m0,r0,e0,a0,b0,d0⟩:=mk_59 e.f9 hp.2.2.2.2.2.2.2.2.2.1 (m+1+1+1+1+1+1+1+1+1) (by omega) (by omega) k (by omega)
    obtain⟨m1,r1,e1,a1,b1,d1⟩:=mk_60 e.f10 hp.2.2.2.2.2.2.2.2.2.2.1 (m0) (by omega) (by omega) k (by omega)
    obtain⟨m2,r2,e2,a2,b2,d2⟩:=mk_60 e.f11 hp.2.2.2.2.2.2.2.2.2.2.2.1 (m1) (by omega) (by omega) k (by omega)
    have rs:∀y,rd_T41 (l.set i y) (i:Int)=y:=fun y=>by rw [rd41 _ i (by rw [List.length_set];omega),List.getElem_set_self]
    refine⟨(⟨m,(txt (m+1)),(txt (m+1+1)),m+1+1+1,m+1+1+1+1,(txt (m+1+1+1+1+1)),(Int.tmod (m+1+1+1+1+1+1) 3==0),m+1+1+1+1+1+1+1,m+1+1+1+1+1+1+1+1,r0,r1,r2,(txt (m2))⟩:S41),m2+1,?_,by omega,by omega,fun _ k' l2 hK' hl2 he2=>?_⟩
    · rw [laws_markCertS.l0]
      simp only [lets,c1,c0,ew,re,rs,Int.toNat_natCast,List.set_set,if_true,Option.bind_some,u41_0_3,u41_10_28,u41_11_28,u41_12_9,u41_1_9,u41_2_9,u41_3_3,u41_4_3,u41_5_9,u41_6_4,u41_7_3,u41_8_3,u41_9_27,show wrap64 (m+1)=m+1 from w64 (by omega) (by omega),text (m+1) (by omega) (by omega) k (by omega),show wrap64 (m+1+1)=m+1+1 from w64 (by omega) (by omega),text (m+1+1) (by omega) (by omega) k (by omega),show wrap64 (m+1+1+1)=m+1+1+1 from w64 (by omega) (by omega),show wrap64 (m+1+1+1+1)=m+1+1+1+1 from w64 (by omega) (by omega),show wrap64 (m+1+1+1+1+1)=m+1+1+1+1+1 from w64 (by omega) (by omega),text (m+1+1+1+1+1) (by omega) (by omega) k (by omega),show wrap64 (m+1+1+1+1+1+1)=m+1+1+1+1+1+1 from w64 (by omega) (by omega),show wrap64 (m+1+1+1+1+1+1+1)=m+1+1+1+1+1+1+1 from w64 (by omega) (by omega),show wrap64 (m+1+1+1+1+1+1+1+1)=m+1+1+1+1+1+1+1+1 from w64 (by omega) (by omega),show wrap64 (m+1+1+1+1+1+1+1+1+1)=m+1+1+1+1+1+1+1+1+1 from w64 (by omega) (by omega),e0,e1,e2,text (m2) (by omega) (by omega) k (by omega),show wrap64 (m2+1)=m2+1 from w64 (by omega) (by omega)]
    · have c2:(i:Int)<(l2.length:Int):=by omega
      have re2:rd_T41 l2 (i:Int)=(⟨m,(txt (m+1)),(txt (m+1+1)),m+1+1+1,m+1+1+1+1,(txt (m+1+1+1+1+1)),(Int.tmod (m+1+1+1+1+1+1) 3==0),m+1+1+1+1+1+1+1,m+1+1+1+1+1+1+1+1,r0,r1,r2,(txt (m2))⟩:S41):=by rw [rd41 l2 i (by omega)];exact Option.some.inj ((List.getElem?_eq_getElem (by omega)).symm.trans he2)
      rw [laws_heldCertS.l0]
      simp only [c2,c0,ew,re2,if_true,if_false,Option.bind_some,show wrap64 (m+1)=m+1 from w64 (by omega) (by omega),text (m+1) (by omega) (by omega) k' (by omega),show wrap64 (m+1+1)=m+1+1 from w64 (by omega) (by omega),text (m+1+1) (by omega) (by omega) k' (by omega),show wrap64 (m+1+1+1)=m+1+1+1 from w64 (by omega) (by omega),show wrap64 (m+1+1+1+1)=m+1+1+1+1 from w64 (by omega) (by omega),show wrap64 (m+1+1+1+1+1)=m+1+1+1+1+1 from w64 (by omega) (by omega),text (m+1+1+1+1+1) (by omega) (by omega) k' (by omega),show wrap64 (m+1+1+1+1+1+1)=m+1+1+1+1+1+1 from w64 (by omega) (by omega),show wrap64 (m+1+1+1+1+1+1+1)=m+1+1+1+1+1+1+1 from w64 (by omega) (by omega),show wrap64 (m+1+1+1+1+1+1+1+1)=m+1+1+1+1+1+1+1+1 from w64 (by omega) (by omega),show wrap64 (m+1+1+1+1+1+1+1+1+1)=m+1+1+1+1+1+1+1+1+1 from w64 (by omega) (by omega),d0 k' (by omega),show¬m0<0 by omega,d1 k' (by omega),show¬m1<0 by omega,d2 k' (by omega),show¬m2<0 by omega,text (m2) (by omega) (by omega) k' (by omega),show wrap64 (m2+1)=m2+1 from w64 (by omega) (by omega)]
  · rw [laws_markCertS.l0,if_neg (by omega)]
  · intro _ k l2 m hl2
    rw [laws_heldCertS.l0,if_neg (by omega)]
  · obtain⟨r,g1,g2,g3,g4,_,g6⟩:=HM
    refine⟨m2,r,by unfold laws_markCertS.f;exact g1,g2,by omega,fun k' hk'=>by unfold laws_heldCertS.f;exact g6 trivial k' (by omega)⟩
theorem mk_113 (x:(List S163))(h:(x.length≤1048576∧∀e∈x,sm163 e))(m:Int)(h0:0<m)(h1:m+2097154≤4611686018427387904)(k:Nat)(hk:1048577≤k):∃m2 r,laws_markRevS.f k x m=some (m2,r)∧m≤m2∧m2≤m+2097154∧True:=by
  have hx:=h.1
  have hw:(2:Int) * ((x.length - 0:Nat):Int)≤2097152:=by omega
  refine Exists.elim (mark_loop False laws_markRevS.l0 (fun _ _ _ _=>none) x sm163 0 2 4611686018427387902 hx (fun k l m i e hK hi hl hle hp hm0 hm1=>?_) (fun k l m=>?_) ?_ x.length k x m 0 rfl (Nat.zero_le _) rfl (fun j e _ he=>h.2 e (List.mem_of_getElem? he)) h0 (by omega) (by omega)) (fun m2 HM=>?_)
  · have c1:(i:Int)<(x.length:Int):=by omega
    have c0:0≤(i:Int):=by omega
    have ew:wrap64 ((i:Int)+1)=((i+1:Nat):Int):=by rw [w64 (by omega) (by omega)];rfl
    have re:rd_T163 l (i:Int)=e:=by rw [rd163 l i (by omega)];exact Option.some.inj ((List.getElem?_eq_getElem (by omega)).symm.trans hle)
    have rs:∀y,rd_T163 (l.set i y) (i:Int)=y:=fun y=>by rw [rd163 _ i (by rw [List.length_set];omega),List.getElem_set_self]
    refine⟨(⟨m,m+1⟩:S163),m+1+1,?_,by omega,by omega,fun hc=>hc.elim⟩
    · rw [laws_markRevS.l0]
      simp only [lets,c1,c0,ew,re,rs,Int.toNat_natCast,List.set_set,if_true,Option.bind_some,u163_0_3,u163_1_3,show wrap64 (m+1)=m+1 from w64 (by omega) (by omega),show wrap64 (m+1+1)=m+1+1 from w64 (by omega) (by omega)]
  · rw [laws_markRevS.l0,if_neg (by omega)]
  · exact fun hc=>hc.elim
  · obtain⟨r,g1,g2,g3,g4,_,g6⟩:=HM
    refine⟨m2,r,by unfold laws_markRevS.f;exact g1,g2,by omega,trivial⟩
theorem mk_57 (x:(List S69))(h:(x.length≤1048576∧∀e∈x,sm69 e))(m:Int)(h0:0<m)(h1:m+2199033741320≤4611686018427387904)(k:Nat)(hk:2097154≤k):∃m2 r,laws_markCrlS.f k x m=some (m2,r)∧m≤m2∧m2≤m+2199033741320∧True:=by
  have hx:=h.1
  have hw:(2097160:Int) * ((x.length - 0:Nat):Int)≤2199031644160:=by omega
  refine Exists.elim (mark_loop False laws_markCrlS.l0 (fun _ _ _ _=>none) x sm69 1048577 2097160 4611686018425290744 hx (fun k l m i e hK hi hl hle hp hm0 hm1=>?_) (fun k l m=>?_) ?_ x.length k x m 0 rfl (Nat.zero_le _) rfl (fun j e _ he=>h.2 e (List.mem_of_getElem? he)) h0 (by omega) (by omega)) (fun m2 HM=>?_)
  · have c1:(i:Int)<(x.length:Int):=by omega
    have c0:0≤(i:Int):=by omega
    have ew:wrap64 ((i:Int)+1)=((i+1:Nat):Int):=by rw [w64 (by omega) (by omega)];rfl
    have re:rd_T69 l (i:Int)=e:=by rw [rd69 l i (by omega)];exact Option.some.inj ((List.getElem?_eq_getElem (by omega)).symm.trans hle)
    obtain⟨m0,r0,e0,a0,b0,d0⟩:=mk_113 e.f5 hp.2.2.2.2.2.1 (m+1+1+1+1+1) (by omega) (by omega) k (by omega)
    have rs:∀y,rd_T69 (l.set i y) (i:Int)=y:=fun y=>by rw [rd69 _ i (by rw [List.length_set];omega),List.getElem_set_self]
    refine⟨(⟨(txt (m)),m+1,m+1+1,m+1+1+1,m+1+1+1+1,r0,(txt (m0))⟩:S69),m0+1,?_,by omega,by omega,fun hc=>hc.elim⟩
    · rw [laws_markCrlS.l0]
      simp only [lets,c1,c0,ew,re,rs,Int.toNat_natCast,List.set_set,if_true,Option.bind_some,u69_0_9,u69_1_3,u69_2_3,u69_3_3,u69_4_3,u69_5_67,u69_6_9,text (m) (by omega) (by omega) k (by omega),show wrap64 (m+1)=m+1 from w64 (by omega) (by omega),show wrap64 (m+1+1)=m+1+1 from w64 (by omega) (by omega),show wrap64 (m+1+1+1)=m+1+1+1 from w64 (by omega) (by omega),show wrap64 (m+1+1+1+1)=m+1+1+1+1 from w64 (by omega) (by omega),show wrap64 (m+1+1+1+1+1)=m+1+1+1+1+1 from w64 (by omega) (by omega),e0,text (m0) (by omega) (by omega) k (by omega),show wrap64 (m0+1)=m0+1 from w64 (by omega) (by omega)]
  · rw [laws_markCrlS.l0,if_neg (by omega)]
  · exact fun hc=>hc.elim
  · obtain⟨r,g1,g2,g3,g4,_,g6⟩:=HM
    refine⟨m2,r,by unfold laws_markCrlS.f;exact g1,g2,by omega,trivial⟩
theorem mk_58 (x:(List S57))(h:(x.length≤1048576∧∀e∈x,sm57 e))(m:Int)(h0:0<m)(h1:m+2097154≤4611686018427387904)(k:Nat)(hk:1048641≤k):∃m2 r,laws_markAnchorS.f k x m=some (m2,r)∧m≤m2∧m2≤m+2097154∧True:=by
  have hx:=h.1
  have hw:(2:Int) * ((x.length - 0:Nat):Int)≤2097152:=by omega
  refine Exists.elim (mark_loop False laws_markAnchorS.l0 (fun _ _ _ _=>none) x sm57 64 2 4611686018427387902 hx (fun k l m i e hK hi hl hle hp hm0 hm1=>?_) (fun k l m=>?_) ?_ x.length k x m 0 rfl (Nat.zero_le _) rfl (fun j e _ he=>h.2 e (List.mem_of_getElem? he)) h0 (by omega) (by omega)) (fun m2 HM=>?_)
  · have c1:(i:Int)<(x.length:Int):=by omega
    have c0:0≤(i:Int):=by omega
    have ew:wrap64 ((i:Int)+1)=((i+1:Nat):Int):=by rw [w64 (by omega) (by omega)];rfl
    have re:rd_T57 l (i:Int)=e:=by rw [rd57 l i (by omega)];exact Option.some.inj ((List.getElem?_eq_getElem (by omega)).symm.trans hle)
    have rs:∀y,rd_T57 (l.set i y) (i:Int)=y:=fun y=>by rw [rd57 _ i (by rw [List.length_set];omega),List.getElem_set_self]
    refine⟨(⟨(txt (m)),(txt (m+1))⟩:S57),m+1+1,?_,by omega,by omega,fun hc=>hc.elim⟩
    · rw [laws_markAnchorS.l0]
      simp only [lets,c1,c0,ew,re,rs,Int.toNat_natCast,List.set_set,if_true,Option.bind_some,u57_0_9,u57_1_9,text (m) (by omega) (by omega) k (by omega),show wrap64 (m+1)=m+1 from w64 (by omega) (by omega),text (m+1) (by omega) (by omega) k (by omega),show wrap64 (m+1+1)=m+1+1 from w64 (by omega) (by omega)]
  · rw [laws_markAnchorS.l0,if_neg (by omega)]
  · exact fun hc=>hc.elim
  · obtain⟨r,g1,g2,g3,g4,_,g6⟩:=HM
    refine⟨m2,r,by unfold laws_markAnchorS.f;exact g1,g2,by omega,trivial⟩
theorem mk_15 (x:S39)(h:sm39 x)(m:Int)(h0:0<m)(h1:m+5497587499031≤4611686018427387904)(k:Nat)(hk:2097218≤k):∃m2 r0 r1 r2,laws_markStore.f k x m=some (m2,r0,r1,r2)∧m≤m2∧m2≤m+5497587499031∧True:=by
  obtain⟨m0,r0_0,e0,a0,b0,c0⟩:=mk_56 x.f0 h.1 m (by omega) (by omega) k (by omega)
  obtain⟨m1,r1_0,e1,a1,b1,c1⟩:=mk_57 x.f1 h.2.1 m0 (by omega) (by omega) k (by omega)
  obtain⟨m2,r2_0,e2,a2,b2,c2⟩:=mk_58 x.f2 h.2.2.1 m1 (by omega) (by omega) k (by omega)
  refine⟨m2,r0_0,r1_0,r2_0,?_,by omega,by omega,trivial⟩
  · unfold laws_markStore.f
    simp only [e0,e1,e2,Option.bind_some]
theorem mk_16 (x:S41)(h:sm41 x)(m:Int)(h0:0<m)(h1:m+3145731≤4611686018427387904)(k:Nat)(hk:1048641≤k):∃m2 r0 r1 r2,laws_markCert.f k x m=some (m2,r0,r1,r2)∧m≤m2∧m2≤m+3145731∧True:=by
  obtain⟨m0,r0_0,e0,a0,b0,c0⟩:=mk_59 x.f9 h.2.2.2.2.2.2.2.2.2.1 m (by omega) (by omega) k (by omega)
  obtain⟨m1,r1_0,e1,a1,b1,c1⟩:=mk_60 x.f10 h.2.2.2.2.2.2.2.2.2.2.1 m0 (by omega) (by omega) k (by omega)
  obtain⟨m2,r2_0,e2,a2,b2,c2⟩:=mk_60 x.f11 h.2.2.2.2.2.2.2.2.2.2.2.1 m1 (by omega) (by omega) k (by omega)
  refine⟨m2,r0_0,r1_0,r2_0,?_,by omega,by omega,trivial⟩
  · unfold laws_markCert.f
    simp only [e0,e1,e2,Option.bind_some]
theorem mk_17 (x:(List S59))(h:(x.length≤1048576∧∀e∈x,sm59 e))(m:Int)(h0:0<m)(h1:m+3458785404572925966≤4611686018427387904)(k:Nat)(hk:3145795≤k):∃m2 r,laws_markWayS.f k x m=some (m2,r)∧m≤m2∧m2≤m+3458785404572925966∧(∀k,3145795≤k→laws_heldWayS.f k r m=some m2):=by
  have hx:=h.1
  have hw:(3298551660558:Int) * ((x.length - 0:Nat):Int)≤3458782106021265408:=by omega
  refine Exists.elim (mark_loop True laws_markWayS.l0 laws_heldWayS.l0 x sm59 2097218 3298551660558 4611682719875727346 hx (fun k l m i e hK hi hl hle hp hm0 hm1=>?_) (fun k l m=>?_) ?_ x.length k x m 0 rfl (Nat.zero_le _) rfl (fun j e _ he=>h.2 e (List.mem_of_getElem? he)) h0 (by omega) (by omega)) (fun m2 HM=>?_)
  · have c1:(i:Int)<(x.length:Int):=by omega
    have c0:0≤(i:Int):=by omega
    have ew:wrap64 ((i:Int)+1)=((i+1:Nat):Int):=by rw [w64 (by omega) (by omega)];rfl
    have re:rd_T59 l (i:Int)=e:=by rw [rd59 l i (by omega)];exact Option.some.inj ((List.getElem?_eq_getElem (by omega)).symm.trans hle)
    obtain⟨m0,r0,e0,a0,b0,d0⟩:=mk_56 e.f1 hp.2.1 (m+1) (by omega) (by omega) k (by omega)
    have rs:∀y,rd_T59 (l.set i y) (i:Int)=y:=fun y=>by rw [rd59 _ i (by rw [List.length_set];omega),List.getElem_set_self]
    refine⟨(⟨m,r0⟩:S59),m0,?_,by omega,by omega,fun _ k' l2 hK' hl2 he2=>?_⟩
    · rw [laws_markWayS.l0]
      simp only [lets,c1,c0,ew,re,rs,Int.toNat_natCast,List.set_set,if_true,Option.bind_some,u59_0_3,u59_1_35,show wrap64 (m+1)=m+1 from w64 (by omega) (by omega),e0]
    · have c2:(i:Int)<(l2.length:Int):=by omega
      have re2:rd_T59 l2 (i:Int)=(⟨m,r0⟩:S59):=by rw [rd59 l2 i (by omega)];exact Option.some.inj ((List.getElem?_eq_getElem (by omega)).symm.trans he2)
      rw [laws_heldWayS.l0]
      simp only [c2,c0,ew,re2,if_true,if_false,Option.bind_some,show wrap64 (m+1)=m+1 from w64 (by omega) (by omega),d0 k' (by omega),show¬m0<0 by omega]
  · rw [laws_markWayS.l0,if_neg (by omega)]
  · intro _ k l2 m hl2
    rw [laws_heldWayS.l0,if_neg (by omega)]
  · obtain⟨r,g1,g2,g3,g4,_,g6⟩:=HM
    refine⟨m2,r,by unfold laws_markWayS.f;exact g1,g2,by omega,fun k' hk'=>by unfold laws_heldWayS.f;exact g6 trivial k' (by omega)⟩
end Go.Proofs.YtncddikfafgklaaGreatDoor.FamFnExactWaysTo

/- Rows of one's own whose elements lead to what was there before. Plain lemmas, no condition. -/
import Derived.Test.YtncddikfafgklaaGreatDoorZView
namespace Go.Proofs.YtncddikfafgklaaGreatDoor.Z
open Go.RowKit YtncddikfafgklaaGreatDoorW.PrintWords YtncddikfafgklaaGreatDoorW.PrintLast
def kat {α:Type}(d:Kd α)(W1:World):Kd α where
  sz:=d.sz
  E:=[]
  K:=fun _ x cs=>d.K W1 x cs
  M:=fun _ _ _ _ _=>False
  K_len:=fun h=>d.K_len h
  K_one:=fun h=>d.K_one h
  K_below:=fun _ h=>h
  K_of_M:=fun h=>h.elim
  M_mono:=fun _ h=>h
  M_bound:=fun h=>h
  M_move:=fun _ h=>h
  M_lower:=fun _ h=>h
def kmix {α:Type}(d:Kd α)(W1:World):Kd α where
  sz:=d.sz
  E:=[]
  K:=fun w x cs=>d.K w x cs∨d.K W1 x cs
  M:=fun _ _ _ _ _=>False
  K_len:=fun h=>h.elim d.K_len d.K_len
  K_one:=fun h=>h.elim d.K_one d.K_one
  K_below:=fun hb h=>h.imp (d.K_below hb) id
  K_of_M:=fun h=>h.elim
  M_mono:=fun _ h=>h
  M_bound:=fun h=>h
  M_move:=fun _ h=>h
  M_lower:=fun _ h=>h
def Zd.at_ {α:Type}(d:Kd α)(W1:World):Zd α where
  kd:=kat d W1
  M:=fun _ _ x cs=>d.K W1 x cs
  of_M:=fun h=>h
  mono:=fun _ h=>h
  keep:=fun _ h=>h
def Zd.mix {α:Type}(d:Zd α)(W1:World):Zd α where
  kd:=kmix d.kd W1
  M:=fun w S x cs=>d.M w S x cs∨d.kd.K W1 x cs
  of_M:=fun h=>h.imp d.of_M id
  mono:=fun hS h=>h.imp (d.mono hS) id
  keep:=fun hm h=>h.imp (d.keep hm) id
section
variable {α:Type} {A A':FP} {w0 w W1:World} {rs:List Res}
theorem flat_at {d:Kd α}:Flat (Zd.at_ d W1):=fun h=>h
theorem at_C {d:Kd α}{B:Option Addr}{n:Nat}{xs:List α}(h:d.C W1 B n xs)(hc:∀ {a:Addr} {v:Value},W1.cell? a=some v→w.cell? a=some v):(kat d W1).C w B n xs:=by
  refine⟨h.1,h.2.1,fun hn=>?_⟩
  obtain⟨ad,e,g⟩:=h.2.2 hn
  refine⟨ad,e,fun j p hj=>?_⟩
  obtain⟨c,c1,c2,c3⟩:=g j p hj
  exact⟨c,c1,c2,fun i u hu=>hc (c3 i u hu)⟩
theorem C_at {d:Kd α}(hd:Up d){B:Option Addr}{n:Nat}{xs:List α}(hc:∀ {a:Addr} {v:Value},W1.cell? a=some v→w.cell? a=some v)(h:(kat d W1).C w B n xs):d.C w B n xs:=by
  refine⟨h.1,h.2.1,fun hn=>?_⟩
  obtain⟨ad,e,g⟩:=h.2.2 hn
  refine⟨ad,e,fun j p hj=>?_⟩
  obtain⟨c,c1,c2,c3⟩:=g j p hj
  exact⟨c,c1,hd (fun a v=>hc) c2,c3⟩
theorem C_mix {d:Kd α}(hd:Up d){B:Option Addr}{n:Nat}{xs:List α}(hc:∀ {a:Addr} {v:Value},W1.cell? a=some v→w.cell? a=some v)(h:(kmix d W1).C w B n xs):d.C w B n xs:=by
  refine⟨h.1,h.2.1,fun hn=>?_⟩
  obtain⟨ad,e,g⟩:=h.2.2 hn
  refine⟨ad,e,fun j p hj=>?_⟩
  obtain⟨c,c1,c2,c3⟩:=g j p hj
  exact⟨c,c1,c2.elim id (hd (fun a v=>hc)),c3⟩
theorem Row.to_mix {d:Zd α}{e:Nat}{S:FP}{v:Value}{xs:List α}(h:Row d e w S v xs):Row (Zd.mix d W1) e w S v xs:=by
  obtain⟨inner,ho,hS,T,h1,h2,h3⟩:=h
  exact⟨inner,ho,hS,T,h1,h2,fun j x hx=>.inl (h3 j x hx)⟩
theorem Row.at_mix {d:Zd α}{e:Nat}{S:FP}{v:Value}{xs:List α}(h:Row (Zd.at_ d.kd W1) e w S v xs):Row (Zd.mix d W1) e w S v xs:=by
  obtain⟨inner,ho,hS,T,h1,h2,h3⟩:=h
  exact⟨inner,ho,hS,T,h1,h2,fun j x hx=>.inr (h3 j x hx)⟩
theorem Hp.same_row {d d':Zd α}{e:Nat}{xs:List α}{v:Value}(i:Nat)(h:Hp A w0 w rs)(hi:rs[i]?=some (.own (Zd.slice e d) xs [v]))(H:∀S:FP,Row d e w S v xs→Row d' e w S v xs):Hp A w0 w (rs.set i (.own (Zd.slice e d') xs [v])):=by
  refine h.upd i hi ⟨rfl,rfl,rfl,Nat.le_refl _⟩ fun S hS hl=>⟨S,?_,fun k hk=>⟨.inl hk,hl k hk⟩,fun _ _ _=>rfl⟩
  obtain⟨v',hv,hr⟩:=hS
  injection hv with hv
  subst hv
  exact⟨_,rfl,H S hr⟩
theorem Hp.to_mix {d:Zd α}{e:Nat}{xs:List α}{v:Value}(W1:World)(i:Nat)(h:Hp A w0 w rs)(hi:rs[i]?=some (.own (Zd.slice e d) xs [v])):Hp A w0 w (rs.set i (.own (Zd.slice e (Zd.mix d W1)) xs [v])):=h.same_row i hi fun _ hr=>hr.to_mix
theorem Hp.at_mix {d:Zd α}{e:Nat}{xs:List α}{v:Value}(W1:World)(i:Nat)(h:Hp A w0 w rs)(hi:rs[i]?=some (.own (Zd.slice e (Zd.at_ d.kd W1)) xs [v])):Hp A w0 w (rs.set i (.own (Zd.slice e (Zd.mix d W1)) xs [v])):=h.same_row (d:=Zd.at_ d.kd W1) i hi fun _ hr=>hr.at_mix
end
end Go.Proofs.YtncddikfafgklaaGreatDoor.Z

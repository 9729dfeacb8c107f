import Derived.Test.YtfcpjeeeddjakaaGreatProg
import Derived.Test.YtfcpjeeeddjakaaGreatZView
import Derived.Test.YtfcpjeeeddjakaaGreatZArr
import Derived.Test.YtfcpjeeeddjakaaGreatZRaw
namespace Go.Proofs.YtfcpjeeeddjakaaGreat.F
open Go.RowKit YtfcpjeeeddjakaaGreatW.PrintWords YtfcpjeeeddjakaaGreatW.PrintLast YtfcpjeeeddjakaaGreatW.PrintMore Z
attribute [local go_sem] max2_int min2_int max_two min_two max_three min_three max_four min_four
set_option linter.unusedVariables false
set_option linter.unusedSimpArgs false
set_option maxRecDepth 100000
structure S26 where
  f0:(List ByteArray)
  f1:Int
  f2:Int
  f3:Int
  f4:Int
  f5:Bool
structure S66 where
  f0:Int
  f1:ByteArray
  f2:(List S66)
def z66:S66:=⟨(0:Int),(⟨#[]⟩:ByteArray),([]:List S66)⟩
def F66 (d:Kd S66):Kd S66:=Kd.iso (Kd.pair (Kd.int .i64) (Kd.pair Kd.string (Kd.slice 66 d))) (fun x:S66=>(x.f0,x.f1,x.f2))
theorem mono66:Kd.Mono F66:=Kd.mono_iso _ (Kd.mono_pair (Kd.mono_const _) (Kd.mono_pair (Kd.mono_const _) (Kd.mono_slice 66 Kd.mono_id)))
theorem sub66:Kd.Sub F66 [66]:=Kd.sub_iso _ (Kd.sub_pair (Kd.sub_const _ (by decide)) (Kd.sub_pair (Kd.sub_const _ (by decide)) (Kd.sub_slice 66 (by decide) Kd.sub_id)))
theorem sz66:∀n,(Kd.upto F66 3 [66] n).sz=3:=Kd.upto_sz (fun _=>rfl)
def k66:Kd S66:=Kd.fix F66 3 [66] sz66 (Kd.upto_E sub66)
theorem k66_open {w:World}{x:S66}{cs:List Value}(h:k66.K w x cs):∃A2 c2,cs=[.int .i64 x.f0,.string x.f1,.slice A2 x.f2.length c2]∧x.f2.length≤c2∧k66.C w A2 x.f2.length x.f2:=by
  obtain⟨n,h⟩:=h
  cases n with
  |zero=>exact h.elim
  | succ n=>
    obtain⟨_,_,rfl,rfl,⟨_,_,rfl,rfl,⟨A2,c2,rfl,l2,g2⟩⟩⟩:=h
    exact⟨A2,c2,rfl,l2,Kd.fix_C g2⟩
theorem k66_mk (w:World)(x:S66){A2:Option Addr}{c2:Nat}(l2:x.f2.length≤c2)(g2:k66.C w A2 x.f2.length x.f2):k66.K w x [.int .i64 x.f0,.string x.f1,.slice A2 x.f2.length c2]:=by
  obtain⟨n2,q2⟩:=Kd.fix_C_back mono66 g2
  have r2:=Kd.upto_C_le mono66 sz66 (show n2≤n2 by omega) q2
  exact⟨n2+1,⟨[.int .i64 x.f0],[.string x.f1,.slice A2 x.f2.length c2],rfl,rfl,⟨[.string x.f1],[.slice A2 x.f2.length c2],rfl,rfl,⟨A2,c2,rfl,l2,r2⟩⟩⟩⟩
def rd_T66 (xs:List S66)(i:Int):S66:=xs.getD i.toNat z66
theorem at_T66 {w:World}{A:Option Addr}{n:Nat}{xs:List S66}(h:Kd.C k66 w A n xs)(i:Int)(h0:0≤i)(h1:i<n):∃ad A2 c2,A=some ad∧w.cell? (ad.add (i.toNat * 3))=some (.int .i64 (rd_T66 xs i).f0)∧w.cell? ⟨(ad.add (i.toNat * 3)).block,(ad.add (i.toNat * 3)).off+1,none⟩=some (.string (rd_T66 xs i).f1)∧w.cell? ⟨(ad.add (i.toNat * 3)).block,(ad.add (i.toNat * 3)).off+2,none⟩=some (.slice A2 (rd_T66 xs i).f2.length c2)∧(rd_T66 xs i).f2.length≤c2∧k66.C w A2 (rd_T66 xs i).f2.length (rd_T66 xs i).f2:=by
  obtain⟨ad,c,e,_,hK,hc0⟩:=Kd.C_get h z66 i h0 h1
  have hc:∀j u,c[j]?=some u→w.cell? (ad.add (i.toNat * 3+j))=some u:=hc0
  obtain⟨A2,c2,rfl,l2,g2⟩:=k66_open hK
  exact⟨ad,A2,c2,e,hc 0 _ rfl,by rw [←add_field _ _ 1 (by omega)];exact hc 1 _ rfl,by rw [←add_field _ _ 2 (by omega)];exact hc 2 _ rfl,l2,g2⟩
structure S125 where
  f0:Int
  f1:ByteArray
  f2:ByteArray
  f3:Int
  f4:Int
  f5:ByteArray
  f6:Bool
  f7:Int
  f8:Int
  f9:(List Int)
  f10:(List ByteArray)
  f11:(List ByteArray)
  f12:ByteArray
def z125:S125:=⟨(0:Int),(⟨#[]⟩:ByteArray),(⟨#[]⟩:ByteArray),(0:Int),(0:Int),(⟨#[]⟩:ByteArray),false,(0:Int),(0:Int),([]:List Int),([]:List ByteArray),([]:List ByteArray),(⟨#[]⟩:ByteArray)⟩
def k125:Kd S125:=Kd.iso (Kd.pair (Kd.int .i64) (Kd.pair Kd.string (Kd.pair Kd.string (Kd.pair (Kd.int .i64) (Kd.pair (Kd.int .i64) (Kd.pair Kd.string (Kd.pair Kd.bool (Kd.pair (Kd.int .i64) (Kd.pair (Kd.int .i64) (Kd.pair (Kd.slice 3 (Kd.int .i64)) (Kd.pair (Kd.slice 9 Kd.string) (Kd.pair (Kd.slice 9 Kd.string) Kd.string)))))))))))) (fun x:S125=>(x.f0,x.f1,x.f2,x.f3,x.f4,x.f5,x.f6,x.f7,x.f8,x.f9,x.f10,x.f11,x.f12))
theorem k125_open {w:World}{x:S125}{cs:List Value}(h:k125.K w x cs):∃A9 c9 A10 c10 A11 c11,cs=[.int .i64 x.f0,.string x.f1,.string x.f2,.int .i64 x.f3,.int .i64 x.f4,.string x.f5,.bool x.f6,.int .i64 x.f7,.int .i64 x.f8,.slice A9 x.f9.length c9,.slice A10 x.f10.length c10,.slice A11 x.f11.length c11,.string x.f12]∧x.f9.length≤c9∧(Kd.int .i64).C w A9 x.f9.length x.f9∧x.f10.length≤c10∧Kd.string.C w A10 x.f10.length x.f10∧x.f11.length≤c11∧Kd.string.C w A11 x.f11.length x.f11:=by
  obtain⟨_,_,rfl,rfl,⟨_,_,rfl,rfl,⟨_,_,rfl,rfl,⟨_,_,rfl,rfl,⟨_,_,rfl,rfl,⟨_,_,rfl,rfl,⟨_,_,rfl,rfl,⟨_,_,rfl,rfl,⟨_,_,rfl,rfl,⟨_,_,rfl,⟨A9,c9,rfl,l9,g9⟩,⟨_,_,rfl,⟨A10,c10,rfl,l10,g10⟩,⟨_,_,rfl,⟨A11,c11,rfl,l11,g11⟩,rfl⟩⟩⟩⟩⟩⟩⟩⟩⟩⟩⟩⟩:=h
  exact⟨A9,c9,A10,c10,A11,c11,rfl,l9,g9,l10,g10,l11,g11⟩
def rd_T125 (xs:List S125)(i:Int):S125:=xs.getD i.toNat z125
theorem at_T125 {w:World}{A:Option Addr}{n:Nat}{xs:List S125}(h:Kd.C k125 w A n xs)(i:Int)(h0:0≤i)(h1:i<n):∃ad A9 c9 A10 c10 A11 c11,A=some ad∧w.cell? (ad.add (i.toNat * 13))=some (.int .i64 (rd_T125 xs i).f0)∧w.cell? ⟨(ad.add (i.toNat * 13)).block,(ad.add (i.toNat * 13)).off+1,none⟩=some (.string (rd_T125 xs i).f1)∧w.cell? ⟨(ad.add (i.toNat * 13)).block,(ad.add (i.toNat * 13)).off+2,none⟩=some (.string (rd_T125 xs i).f2)∧w.cell? ⟨(ad.add (i.toNat * 13)).block,(ad.add (i.toNat * 13)).off+3,none⟩=some (.int .i64 (rd_T125 xs i).f3)∧w.cell? ⟨(ad.add (i.toNat * 13)).block,(ad.add (i.toNat * 13)).off+4,none⟩=some (.int .i64 (rd_T125 xs i).f4)∧w.cell? ⟨(ad.add (i.toNat * 13)).block,(ad.add (i.toNat * 13)).off+5,none⟩=some (.string (rd_T125 xs i).f5)∧w.cell? ⟨(ad.add (i.toNat * 13)).block,(ad.add (i.toNat * 13)).off+6,none⟩=some (.bool (rd_T125 xs i).f6)∧w.cell? ⟨(ad.add (i.toNat * 13)).block,(ad.add (i.toNat * 13)).off+7,none⟩=some (.int .i64 (rd_T125 xs i).f7)∧w.cell? ⟨(ad.add (i.toNat * 13)).block,(ad.add (i.toNat * 13)).off+8,none⟩=some (.int .i64 (rd_T125 xs i).f8)∧w.cell? ⟨(ad.add (i.toNat * 13)).block,(ad.add (i.toNat * 13)).off+9,none⟩=some (.slice A9 (rd_T125 xs i).f9.length c9)∧w.cell? ⟨(ad.add (i.toNat * 13)).block,(ad.add (i.toNat * 13)).off+10,none⟩=some (.slice A10 (rd_T125 xs i).f10.length c10)∧w.cell? ⟨(ad.add (i.toNat * 13)).block,(ad.add (i.toNat * 13)).off+11,none⟩=some (.slice A11 (rd_T125 xs i).f11.length c11)∧w.cell? ⟨(ad.add (i.toNat * 13)).block,(ad.add (i.toNat * 13)).off+12,none⟩=some (.string (rd_T125 xs i).f12)∧(rd_T125 xs i).f9.length≤c9∧(Kd.int .i64).C w A9 (rd_T125 xs i).f9.length (rd_T125 xs i).f9∧(rd_T125 xs i).f10.length≤c10∧Kd.string.C w A10 (rd_T125 xs i).f10.length (rd_T125 xs i).f10∧(rd_T125 xs i).f11.length≤c11∧Kd.string.C w A11 (rd_T125 xs i).f11.length (rd_T125 xs i).f11:=by
  obtain⟨ad,c,e,_,hK,hc0⟩:=Kd.C_get h z125 i h0 h1
  have hc:∀j u,c[j]?=some u→w.cell? (ad.add (i.toNat * 13+j))=some u:=hc0
  obtain⟨A9,c9,A10,c10,A11,c11,rfl,l9,g9,l10,g10,l11,g11⟩:=k125_open hK
  exact⟨ad,A9,c9,A10,c10,A11,c11,e,hc 0 _ rfl,by rw [←add_field _ _ 1 (by omega)];exact hc 1 _ rfl,by rw [←add_field _ _ 2 (by omega)];exact hc 2 _ rfl,by rw [←add_field _ _ 3 (by omega)];exact hc 3 _ rfl,by rw [←add_field _ _ 4 (by omega)];exact hc 4 _ rfl,by rw [←add_field _ _ 5 (by omega)];exact hc 5 _ rfl,by rw [←add_field _ _ 6 (by omega)];exact hc 6 _ rfl,by rw [←add_field _ _ 7 (by omega)];exact hc 7 _ rfl,by rw [←add_field _ _ 8 (by omega)];exact hc 8 _ rfl,by rw [←add_field _ _ 9 (by omega)];exact hc 9 _ rfl,by rw [←add_field _ _ 10 (by omega)];exact hc 10 _ rfl,by rw [←add_field _ _ 11 (by omega)];exact hc 11 _ rfl,by rw [←add_field _ _ 12 (by omega)];exact hc 12 _ rfl,l9,g9,l10,g10,l11,g11⟩
structure S110 where
  f0:(List Int)
  f1:Int
  f2:Int
structure S37 where
  f0:Int
  f1:(List Int)
  f2:Bool
  f3:Bool
  f4:Int
def z37:S37:=⟨(0:Int),([]:List Int),false,false,(0:Int)⟩
def k37:Kd S37:=Kd.iso (Kd.pair (Kd.int .i64) (Kd.pair (Kd.slice 3 (Kd.int .i64)) (Kd.pair Kd.bool (Kd.pair Kd.bool (Kd.int .i64))))) (fun x:S37=>(x.f0,x.f1,x.f2,x.f3,x.f4))
theorem k37_open {w:World}{x:S37}{cs:List Value}(h:k37.K w x cs):∃A1 c1,cs=[.int .i64 x.f0,.slice A1 x.f1.length c1,.bool x.f2,.bool x.f3,.int .i64 x.f4]∧x.f1.length≤c1∧(Kd.int .i64).C w A1 x.f1.length x.f1:=by
  obtain⟨_,_,rfl,rfl,⟨_,_,rfl,⟨A1,c1,rfl,l1,g1⟩,⟨_,_,rfl,rfl,⟨_,_,rfl,rfl,rfl⟩⟩⟩⟩:=h
  exact⟨A1,c1,rfl,l1,g1⟩
structure S39 where
  f0:Int
  f1:(List Int)
  f2:S37
def z39:S39:=⟨(0:Int),([]:List Int),z37⟩
def k39:Kd S39:=Kd.iso (Kd.pair (Kd.int .i64) (Kd.pair (Kd.slice 3 (Kd.int .i64)) k37)) (fun x:S39=>(x.f0,x.f1,x.f2))
theorem k39_open {w:World}{x:S39}{cs:List Value}(h:k39.K w x cs):∃A1 c1 A3 c3,cs=[.int .i64 x.f0,.slice A1 x.f1.length c1,.int .i64 x.f2.f0,.slice A3 x.f2.f1.length c3,.bool x.f2.f2,.bool x.f2.f3,.int .i64 x.f2.f4]∧x.f1.length≤c1∧(Kd.int .i64).C w A1 x.f1.length x.f1∧x.f2.f1.length≤c3∧(Kd.int .i64).C w A3 x.f2.f1.length x.f2.f1:=by
  obtain⟨_,_,rfl,rfl,⟨_,_,rfl,⟨A1,c1,rfl,l1,g1⟩,s2⟩⟩:=h
  obtain⟨A3,c3,rfl,l3,g3⟩:=k37_open s2
  exact⟨A1,c1,A3,c3,rfl,l1,g1,l3,g3⟩
def rd_T39 (xs:List S39)(i:Int):S39:=xs.getD i.toNat z39
theorem at_T39 {w:World}{A:Option Addr}{n:Nat}{xs:List S39}(h:Kd.C k39 w A n xs)(i:Int)(h0:0≤i)(h1:i<n):∃ad A1 c1 A3 c3,A=some ad∧w.cell? (ad.add (i.toNat * 7))=some (.int .i64 (rd_T39 xs i).f0)∧w.cell? ⟨(ad.add (i.toNat * 7)).block,(ad.add (i.toNat * 7)).off+1,none⟩=some (.slice A1 (rd_T39 xs i).f1.length c1)∧w.cell? ⟨(ad.add (i.toNat * 7)).block,(ad.add (i.toNat * 7)).off+2,none⟩=some (.int .i64 (rd_T39 xs i).f2.f0)∧w.cell? ⟨(ad.add (i.toNat * 7)).block,(ad.add (i.toNat * 7)).off+3,none⟩=some (.slice A3 (rd_T39 xs i).f2.f1.length c3)∧w.cell? ⟨(ad.add (i.toNat * 7)).block,(ad.add (i.toNat * 7)).off+4,none⟩=some (.bool (rd_T39 xs i).f2.f2)∧w.cell? ⟨(ad.add (i.toNat * 7)).block,(ad.add (i.toNat * 7)).off+5,none⟩=some (.bool (rd_T39 xs i).f2.f3)∧w.cell? ⟨(ad.add (i.toNat * 7)).block,(ad.add (i.toNat * 7)).off+6,none⟩=some (.int .i64 (rd_T39 xs i).f2.f4)∧(rd_T39 xs i).f1.length≤c1∧(Kd.int .i64).C w A1 (rd_T39 xs i).f1.length (rd_T39 xs i).f1∧(rd_T39 xs i).f2.f1.length≤c3∧(Kd.int .i64).C w A3 (rd_T39 xs i).f2.f1.length (rd_T39 xs i).f2.f1:=by
  obtain⟨ad,c,e,_,hK,hc0⟩:=Kd.C_get h z39 i h0 h1
  have hc:∀j u,c[j]?=some u→w.cell? (ad.add (i.toNat * 7+j))=some u:=hc0
  obtain⟨A1,c1,A3,c3,rfl,l1,g1,l3,g3⟩:=k39_open hK
  exact⟨ad,A1,c1,A3,c3,e,hc 0 _ rfl,by rw [←add_field _ _ 1 (by omega)];exact hc 1 _ rfl,by rw [←add_field _ _ 2 (by omega)];exact hc 2 _ rfl,by rw [←add_field _ _ 3 (by omega)];exact hc 3 _ rfl,by rw [←add_field _ _ 4 (by omega)];exact hc 4 _ rfl,by rw [←add_field _ _ 5 (by omega)];exact hc 5 _ rfl,by rw [←add_field _ _ 6 (by omega)];exact hc 6 _ rfl,l1,g1,l3,g3⟩
structure S133 where
  f0:Int
  f1:Int
def z133:S133:=⟨(0:Int),(0:Int)⟩
def k133:Kd S133:=Kd.iso (Kd.pair (Kd.int .i64) (Kd.int .i64)) (fun x:S133=>(x.f0,x.f1))
theorem k133_open {w:World}{x:S133}{cs:List Value}(h:k133.K w x cs):cs=[.int .i64 x.f0,.int .i64 x.f1]:=by
  obtain⟨_,_,rfl,rfl,rfl⟩:=h
  exact rfl
def rd_T133 (xs:List S133)(i:Int):S133:=xs.getD i.toNat z133
theorem at_T133 {w:World}{A:Option Addr}{n:Nat}{xs:List S133}(h:Kd.C k133 w A n xs)(i:Int)(h0:0≤i)(h1:i<n):∃ad,A=some ad∧w.cell? (ad.add (i.toNat * 2))=some (.int .i64 (rd_T133 xs i).f0)∧w.cell? ⟨(ad.add (i.toNat * 2)).block,(ad.add (i.toNat * 2)).off+1,none⟩=some (.int .i64 (rd_T133 xs i).f1):=by
  obtain⟨ad,c,e,_,hK,hc0⟩:=Kd.C_get h z133 i h0 h1
  have hc:∀j u,c[j]?=some u→w.cell? (ad.add (i.toNat * 2+j))=some u:=hc0
  obtain rfl:=k133_open hK
  exact⟨ad,e,hc 0 _ rfl,by rw [←add_field _ _ 1 (by omega)];exact hc 1 _ rfl⟩
structure S103 where
  f0:ByteArray
  f1:Int
  f2:Int
  f3:Int
  f4:Int
  f5:(List S133)
  f6:ByteArray
def z103:S103:=⟨(⟨#[]⟩:ByteArray),(0:Int),(0:Int),(0:Int),(0:Int),([]:List S133),(⟨#[]⟩:ByteArray)⟩
def k103:Kd S103:=Kd.iso (Kd.pair Kd.string (Kd.pair (Kd.int .i64) (Kd.pair (Kd.int .i64) (Kd.pair (Kd.int .i64) (Kd.pair (Kd.int .i64) (Kd.pair (Kd.slice 133 k133) Kd.string)))))) (fun x:S103=>(x.f0,x.f1,x.f2,x.f3,x.f4,x.f5,x.f6))
theorem k103_open {w:World}{x:S103}{cs:List Value}(h:k103.K w x cs):∃A5 c5,cs=[.string x.f0,.int .i64 x.f1,.int .i64 x.f2,.int .i64 x.f3,.int .i64 x.f4,.slice A5 x.f5.length c5,.string x.f6]∧x.f5.length≤c5∧k133.C w A5 x.f5.length x.f5:=by
  obtain⟨_,_,rfl,rfl,⟨_,_,rfl,rfl,⟨_,_,rfl,rfl,⟨_,_,rfl,rfl,⟨_,_,rfl,rfl,⟨_,_,rfl,⟨A5,c5,rfl,l5,g5⟩,rfl⟩⟩⟩⟩⟩⟩:=h
  exact⟨A5,c5,rfl,l5,g5⟩
def rd_T103 (xs:List S103)(i:Int):S103:=xs.getD i.toNat z103
theorem at_T103 {w:World}{A:Option Addr}{n:Nat}{xs:List S103}(h:Kd.C k103 w A n xs)(i:Int)(h0:0≤i)(h1:i<n):∃ad A5 c5,A=some ad∧w.cell? (ad.add (i.toNat * 7))=some (.string (rd_T103 xs i).f0)∧w.cell? ⟨(ad.add (i.toNat * 7)).block,(ad.add (i.toNat * 7)).off+1,none⟩=some (.int .i64 (rd_T103 xs i).f1)∧w.cell? ⟨(ad.add (i.toNat * 7)).block,(ad.add (i.toNat * 7)).off+2,none⟩=some (.int .i64 (rd_T103 xs i).f2)∧w.cell? ⟨(ad.add (i.toNat * 7)).block,(ad.add (i.toNat * 7)).off+3,none⟩=some (.int .i64 (rd_T103 xs i).f3)∧w.cell? ⟨(ad.add (i.toNat * 7)).block,(ad.add (i.toNat * 7)).off+4,none⟩=some (.int .i64 (rd_T103 xs i).f4)∧w.cell? ⟨(ad.add (i.toNat * 7)).block,(ad.add (i.toNat * 7)).off+5,none⟩=some (.slice A5 (rd_T103 xs i).f5.length c5)∧w.cell? ⟨(ad.add (i.toNat * 7)).block,(ad.add (i.toNat * 7)).off+6,none⟩=some (.string (rd_T103 xs i).f6)∧(rd_T103 xs i).f5.length≤c5∧k133.C w A5 (rd_T103 xs i).f5.length (rd_T103 xs i).f5:=by
  obtain⟨ad,c,e,_,hK,hc0⟩:=Kd.C_get h z103 i h0 h1
  have hc:∀j u,c[j]?=some u→w.cell? (ad.add (i.toNat * 7+j))=some u:=hc0
  obtain⟨A5,c5,rfl,l5,g5⟩:=k103_open hK
  exact⟨ad,A5,c5,e,hc 0 _ rfl,by rw [←add_field _ _ 1 (by omega)];exact hc 1 _ rfl,by rw [←add_field _ _ 2 (by omega)];exact hc 2 _ rfl,by rw [←add_field _ _ 3 (by omega)];exact hc 3 _ rfl,by rw [←add_field _ _ 4 (by omega)];exact hc 4 _ rfl,by rw [←add_field _ _ 5 (by omega)];exact hc 5 _ rfl,by rw [←add_field _ _ 6 (by omega)];exact hc 6 _ rfl,l5,g5⟩
structure S105 where
  f0:ByteArray
  f1:ByteArray
def z105:S105:=⟨(⟨#[]⟩:ByteArray),(⟨#[]⟩:ByteArray)⟩
def k105:Kd S105:=Kd.iso (Kd.pair Kd.string Kd.string) (fun x:S105=>(x.f0,x.f1))
theorem k105_open {w:World}{x:S105}{cs:List Value}(h:k105.K w x cs):cs=[.string x.f0,.string x.f1]:=by
  obtain⟨_,_,rfl,rfl,rfl⟩:=h
  exact rfl
def rd_T105 (xs:List S105)(i:Int):S105:=xs.getD i.toNat z105
theorem at_T105 {w:World}{A:Option Addr}{n:Nat}{xs:List S105}(h:Kd.C k105 w A n xs)(i:Int)(h0:0≤i)(h1:i<n):∃ad,A=some ad∧w.cell? (ad.add (i.toNat * 2))=some (.string (rd_T105 xs i).f0)∧w.cell? ⟨(ad.add (i.toNat * 2)).block,(ad.add (i.toNat * 2)).off+1,none⟩=some (.string (rd_T105 xs i).f1):=by
  obtain⟨ad,c,e,_,hK,hc0⟩:=Kd.C_get h z105 i h0 h1
  have hc:∀j u,c[j]?=some u→w.cell? (ad.add (i.toNat * 2+j))=some u:=hc0
  obtain rfl:=k105_open hK
  exact⟨ad,e,hc 0 _ rfl,by rw [←add_field _ _ 1 (by omega)];exact hc 1 _ rfl⟩
structure S48 where
  f0:(List S125)
  f1:(List S103)
  f2:(List S105)
def G66 (d:Zd S66):Zd S66:=Zd.iso (Zd.pair (Zd.int .i64) (Zd.pair Zd.string (Zd.slice 66 d))) (fun x:S66=>(x.f0,x.f1,x.f2))
theorem g66:ZF G66:=ZF.iso _ (ZF.pair (ZF.const _) (ZF.pair (ZF.const _) (ZF.slice 66 ZF.id)))
theorem fold66 {w:World}{x:S66}{cs:List Value}(h:(F66 k66).K w x cs):k66.K w x cs:=by
  obtain⟨_,_,rfl,rfl,_,_,rfl,rfl,⟨A2,c2,rfl,l2,h2⟩⟩:=h
  exact k66_mk w x l2 h2
def q66:Zd S66:=Zd.fix k66 G66 (fun d hd w x cs h=>fold66 (by rw [←hd];exact h))
theorem q66_fold {w:World}{S:FP}{x:S66}{cs:List Value}(h:(G66 q66).M w S x cs):q66.M w S x cs:=Zd.fix_fold _ _ _ g66 h
def q125:Zd S125:=Zd.iso (Zd.pair (Zd.int .i64) (Zd.pair Zd.string (Zd.pair Zd.string (Zd.pair (Zd.int .i64) (Zd.pair (Zd.int .i64) (Zd.pair Zd.string (Zd.pair Zd.bool (Zd.pair (Zd.int .i64) (Zd.pair (Zd.int .i64) (Zd.pair (Zd.slice 3 (Zd.int .i64)) (Zd.pair (Zd.slice 9 Zd.string) (Zd.pair (Zd.slice 9 Zd.string) Zd.string)))))))))))) (fun x:S125=>(x.f0,x.f1,x.f2,x.f3,x.f4,x.f5,x.f6,x.f7,x.f8,x.f9,x.f10,x.f11,x.f12))
def q37:Zd S37:=Zd.iso (Zd.pair (Zd.int .i64) (Zd.pair (Zd.slice 3 (Zd.int .i64)) (Zd.pair Zd.bool (Zd.pair Zd.bool (Zd.int .i64))))) (fun x:S37=>(x.f0,x.f1,x.f2,x.f3,x.f4))
def q39:Zd S39:=Zd.iso (Zd.pair (Zd.int .i64) (Zd.pair (Zd.slice 3 (Zd.int .i64)) q37)) (fun x:S39=>(x.f0,x.f1,x.f2))
theorem km133:Up k133:=up_iso _ (up_pair up_int up_int)
def q133:Zd S133:=Zd.iso (Zd.pair (Zd.int .i64) (Zd.int .i64)) (fun x:S133=>(x.f0,x.f1))
def q103:Zd S103:=Zd.iso (Zd.pair Zd.string (Zd.pair (Zd.int .i64) (Zd.pair (Zd.int .i64) (Zd.pair (Zd.int .i64) (Zd.pair (Zd.int .i64) (Zd.pair (Zd.slice 133 q133) Zd.string)))))) (fun x:S103=>(x.f0,x.f1,x.f2,x.f3,x.f4,x.f5,x.f6))
def q105:Zd S105:=Zd.iso (Zd.pair Zd.string Zd.string) (fun x:S105=>(x.f0,x.f1))
theorem rd_T39_get {xs:List S39}{i:Int}(hl:i.toNat<xs.length):xs[i.toNat]=rd_T39 xs i:=by unfold rd_T39;simp [List.getD_eq_getElem?_getD,hl]
theorem rd_T125_get {xs:List S125}{i:Int}(hl:i.toNat<xs.length):xs[i.toNat]=rd_T125 xs i:=by unfold rd_T125;simp [List.getD_eq_getElem?_getD,hl]
theorem info3:(Tryz.prog.info? 3).map (fun i=>(i.zero,i.size,i.bytes))=some (some (.int .i64 0),1,8):=by kernel_rfl
theorem info5:(Tryz.prog.info? 5).map (fun i=>(i.zero,i.size,i.bytes))=some (some (.int .u8 0),1,1):=by kernel_rfl
theorem info9:(Tryz.prog.info? 9).map (fun i=>(i.zero,i.size,i.bytes))=some (some (.string ⟨#[]⟩),1,16):=by kernel_rfl
theorem info39:(Tryz.prog.info? 39).map (fun i=>(i.zero,i.size,i.bytes))=some (some (.agg #[.int .i64 0,.slice none 0 0,.int .i64 0,.slice none 0 0,.bool false,.bool false,.int .i64 0]),7,80):=by kernel_rfl
theorem info66:(Tryz.prog.info? 66).map (fun i=>(i.zero,i.size,i.bytes))=some (some (.agg #[.int .i64 0,.string ⟨#[]⟩,.slice none 0 0]),3,48):=by kernel_rfl
theorem info103:(Tryz.prog.info? 103).map (fun i=>(i.zero,i.size,i.bytes))=some (some (.agg #[.string ⟨#[]⟩,.int .i64 0,.int .i64 0,.int .i64 0,.int .i64 0,.slice none 0 0,.string ⟨#[]⟩]),7,88):=by kernel_rfl
theorem info105:(Tryz.prog.info? 105).map (fun i=>(i.zero,i.size,i.bytes))=some (some (.agg #[.string ⟨#[]⟩,.string ⟨#[]⟩]),2,32):=by kernel_rfl
theorem info125:(Tryz.prog.info? 125).map (fun i=>(i.zero,i.size,i.bytes))=some (some (.agg #[.int .i64 0,.string ⟨#[]⟩,.string ⟨#[]⟩,.int .i64 0,.int .i64 0,.string ⟨#[]⟩,.bool false,.int .i64 0,.int .i64 0,.slice none 0 0,.slice none 0 0,.slice none 0 0,.string ⟨#[]⟩]),13,184):=by kernel_rfl
theorem info133:(Tryz.prog.info? 133).map (fun i=>(i.zero,i.size,i.bytes))=some (some (.agg #[.int .i64 0,.int .i64 0]),2,16):=by kernel_rfl
theorem fl133:Flat q133:=flat_iso _ (flat_pair (flat_int _) (flat_int _))
theorem fl105:Flat q105:=flat_iso _ (flat_pair flat_string flat_string)
def u39_0_3 (x:S39)(y:Int):S39:={ x with f0:=y }
theorem lens39_0_3:Lens q39 (Zd.int .i64) 0 (fun x=>x.f0) u39_0_3:=(Lens.iso (Lens.left (Lens.refl (Zd.int .i64))) _ (fun x:S39=>x.f0) (fun(x:S39) y=>{ x with f0:=y }) (fun _=>rfl) (fun _ _=>rfl))
def u39_1_35 (x:S39)(y:(List Int)):S39:={ x with f1:=y }
theorem lens39_1_35:Lens q39 (Zd.slice 3 (Zd.int .i64)) 1 (fun x=>x.f1) u39_1_35:=(Lens.iso (Lens.right (a:=(Zd.int .i64)) (Lens.left (Lens.refl (Zd.slice 3 (Zd.int .i64))))) _ (fun x:S39=>x.f1) (fun(x:S39) y=>{ x with f1:=y }) (fun _=>rfl) (fun _ _=>rfl))
def u39_6_3 (x:S39)(y:Int):S39:={ x with f2.f4:=y }
theorem lens39_6_3:Lens q39 (Zd.int .i64) 6 (fun x=>x.f2.f4) u39_6_3:=(Lens.iso (Lens.right (a:=(Zd.int .i64)) (Lens.right (a:=(Zd.slice 3 (Zd.int .i64))) (Lens.iso (Lens.right (a:=(Zd.int .i64)) (Lens.right (a:=(Zd.slice 3 (Zd.int .i64))) (Lens.right (a:=Zd.bool) (Lens.right (a:=Zd.bool) (Lens.refl (Zd.int .i64)))))) _ (fun x:S37=>x.f4) (fun(x:S37) y=>{ x with f4:=y }) (fun _=>rfl) (fun _ _=>rfl)))) _ (fun x:S39=>x.f2.f4) (fun(x:S39) y=>{ x with f2.f4:=y }) (fun _=>rfl) (fun _ _=>rfl))
theorem q66_pack {w:World}{S:Nat→FP}{x:S66}{v0:Value}{j0:Nat}(hd:∀i j k,i≠j→S i k→¬S j k)(h0:(Zd.slice 66 q66).M w (S j0) x.f2 [v0])(hn:[j0].Nodup):q66.M w (fun k=>∃i,i∈ [j0]∧S i k) x [.int .i64 x.f0,.string x.f1,v0]:=(q66_fold (pair_app (a:=(Zd.int .i64)) (b:=(Zd.pair Zd.string (Zd.slice 66 q66))) (w:=w) (S:=S) (js1:=[]) (js2:=[j0]) (x:=x.f0) (y:=(x.f1,x.f2)) (c0:=[.int .i64 x.f0]) (c1:=[.string x.f1,v0]) hd rfl (pair_app (a:=Zd.string) (b:=(Zd.slice 66 q66)) (w:=w) (S:=S) (js1:=[]) (js2:=[j0]) (x:=x.f1) (y:=x.f2) (c0:=[.string x.f1]) (c1:=[v0]) hd rfl (made_one h0) hn) hn))
theorem q125_pack {w:World}{S:Nat→FP}{x:S125}{v0 v1 v2:Value}{j0 j1 j2:Nat}(hd:∀i j k,i≠j→S i k→¬S j k)(h0:(Zd.slice 3 (Zd.int .i64)).M w (S j0) x.f9 [v0])(h1:(Zd.slice 9 Zd.string).M w (S j1) x.f10 [v1])(h2:(Zd.slice 9 Zd.string).M w (S j2) x.f11 [v2])(hn:[j0,j1,j2].Nodup):q125.M w (fun k=>∃i,i∈ [j0,j1,j2]∧S i k) x [.int .i64 x.f0,.string x.f1,.string x.f2,.int .i64 x.f3,.int .i64 x.f4,.string x.f5,.bool x.f6,.int .i64 x.f7,.int .i64 x.f8,v0,v1,v2,.string x.f12]:=((pair_app (a:=(Zd.int .i64)) (b:=(Zd.pair Zd.string (Zd.pair Zd.string (Zd.pair (Zd.int .i64) (Zd.pair (Zd.int .i64) (Zd.pair Zd.string (Zd.pair Zd.bool (Zd.pair (Zd.int .i64) (Zd.pair (Zd.int .i64) (Zd.pair (Zd.slice 3 (Zd.int .i64)) (Zd.pair (Zd.slice 9 Zd.string) (Zd.pair (Zd.slice 9 Zd.string) Zd.string)))))))))))) (w:=w) (S:=S) (js1:=[]) (js2:=[j0,j1,j2]) (x:=x.f0) (y:=(x.f1,(x.f2,(x.f3,(x.f4,(x.f5,(x.f6,(x.f7,(x.f8,(x.f9,(x.f10,(x.f11,x.f12)))))))))))) (c0:=[.int .i64 x.f0]) (c1:=[.string x.f1,.string x.f2,.int .i64 x.f3,.int .i64 x.f4,.string x.f5,.bool x.f6,.int .i64 x.f7,.int .i64 x.f8,v0,v1,v2,.string x.f12]) hd rfl (pair_app (a:=Zd.string) (b:=(Zd.pair Zd.string (Zd.pair (Zd.int .i64) (Zd.pair (Zd.int .i64) (Zd.pair Zd.string (Zd.pair Zd.bool (Zd.pair (Zd.int .i64) (Zd.pair (Zd.int .i64) (Zd.pair (Zd.slice 3 (Zd.int .i64)) (Zd.pair (Zd.slice 9 Zd.string) (Zd.pair (Zd.slice 9 Zd.string) Zd.string))))))))))) (w:=w) (S:=S) (js1:=[]) (js2:=[j0,j1,j2]) (x:=x.f1) (y:=(x.f2,(x.f3,(x.f4,(x.f5,(x.f6,(x.f7,(x.f8,(x.f9,(x.f10,(x.f11,x.f12))))))))))) (c0:=[.string x.f1]) (c1:=[.string x.f2,.int .i64 x.f3,.int .i64 x.f4,.string x.f5,.bool x.f6,.int .i64 x.f7,.int .i64 x.f8,v0,v1,v2,.string x.f12]) hd rfl (pair_app (a:=Zd.string) (b:=(Zd.pair (Zd.int .i64) (Zd.pair (Zd.int .i64) (Zd.pair Zd.string (Zd.pair Zd.bool (Zd.pair (Zd.int .i64) (Zd.pair (Zd.int .i64) (Zd.pair (Zd.slice 3 (Zd.int .i64)) (Zd.pair (Zd.slice 9 Zd.string) (Zd.pair (Zd.slice 9 Zd.string) Zd.string)))))))))) (w:=w) (S:=S) (js1:=[]) (js2:=[j0,j1,j2]) (x:=x.f2) (y:=(x.f3,(x.f4,(x.f5,(x.f6,(x.f7,(x.f8,(x.f9,(x.f10,(x.f11,x.f12)))))))))) (c0:=[.string x.f2]) (c1:=[.int .i64 x.f3,.int .i64 x.f4,.string x.f5,.bool x.f6,.int .i64 x.f7,.int .i64 x.f8,v0,v1,v2,.string x.f12]) hd rfl (pair_app (a:=(Zd.int .i64)) (b:=(Zd.pair (Zd.int .i64) (Zd.pair Zd.string (Zd.pair Zd.bool (Zd.pair (Zd.int .i64) (Zd.pair (Zd.int .i64) (Zd.pair (Zd.slice 3 (Zd.int .i64)) (Zd.pair (Zd.slice 9 Zd.string) (Zd.pair (Zd.slice 9 Zd.string) Zd.string))))))))) (w:=w) (S:=S) (js1:=[]) (js2:=[j0,j1,j2]) (x:=x.f3) (y:=(x.f4,(x.f5,(x.f6,(x.f7,(x.f8,(x.f9,(x.f10,(x.f11,x.f12))))))))) (c0:=[.int .i64 x.f3]) (c1:=[.int .i64 x.f4,.string x.f5,.bool x.f6,.int .i64 x.f7,.int .i64 x.f8,v0,v1,v2,.string x.f12]) hd rfl (pair_app (a:=(Zd.int .i64)) (b:=(Zd.pair Zd.string (Zd.pair Zd.bool (Zd.pair (Zd.int .i64) (Zd.pair (Zd.int .i64) (Zd.pair (Zd.slice 3 (Zd.int .i64)) (Zd.pair (Zd.slice 9 Zd.string) (Zd.pair (Zd.slice 9 Zd.string) Zd.string)))))))) (w:=w) (S:=S) (js1:=[]) (js2:=[j0,j1,j2]) (x:=x.f4) (y:=(x.f5,(x.f6,(x.f7,(x.f8,(x.f9,(x.f10,(x.f11,x.f12)))))))) (c0:=[.int .i64 x.f4]) (c1:=[.string x.f5,.bool x.f6,.int .i64 x.f7,.int .i64 x.f8,v0,v1,v2,.string x.f12]) hd rfl (pair_app (a:=Zd.string) (b:=(Zd.pair Zd.bool (Zd.pair (Zd.int .i64) (Zd.pair (Zd.int .i64) (Zd.pair (Zd.slice 3 (Zd.int .i64)) (Zd.pair (Zd.slice 9 Zd.string) (Zd.pair (Zd.slice 9 Zd.string) Zd.string))))))) (w:=w) (S:=S) (js1:=[]) (js2:=[j0,j1,j2]) (x:=x.f5) (y:=(x.f6,(x.f7,(x.f8,(x.f9,(x.f10,(x.f11,x.f12))))))) (c0:=[.string x.f5]) (c1:=[.bool x.f6,.int .i64 x.f7,.int .i64 x.f8,v0,v1,v2,.string x.f12]) hd rfl (pair_app (a:=Zd.bool) (b:=(Zd.pair (Zd.int .i64) (Zd.pair (Zd.int .i64) (Zd.pair (Zd.slice 3 (Zd.int .i64)) (Zd.pair (Zd.slice 9 Zd.string) (Zd.pair (Zd.slice 9 Zd.string) Zd.string)))))) (w:=w) (S:=S) (js1:=[]) (js2:=[j0,j1,j2]) (x:=x.f6) (y:=(x.f7,(x.f8,(x.f9,(x.f10,(x.f11,x.f12)))))) (c0:=[.bool x.f6]) (c1:=[.int .i64 x.f7,.int .i64 x.f8,v0,v1,v2,.string x.f12]) hd rfl (pair_app (a:=(Zd.int .i64)) (b:=(Zd.pair (Zd.int .i64) (Zd.pair (Zd.slice 3 (Zd.int .i64)) (Zd.pair (Zd.slice 9 Zd.string) (Zd.pair (Zd.slice 9 Zd.string) Zd.string))))) (w:=w) (S:=S) (js1:=[]) (js2:=[j0,j1,j2]) (x:=x.f7) (y:=(x.f8,(x.f9,(x.f10,(x.f11,x.f12))))) (c0:=[.int .i64 x.f7]) (c1:=[.int .i64 x.f8,v0,v1,v2,.string x.f12]) hd rfl (pair_app (a:=(Zd.int .i64)) (b:=(Zd.pair (Zd.slice 3 (Zd.int .i64)) (Zd.pair (Zd.slice 9 Zd.string) (Zd.pair (Zd.slice 9 Zd.string) Zd.string)))) (w:=w) (S:=S) (js1:=[]) (js2:=[j0,j1,j2]) (x:=x.f8) (y:=(x.f9,(x.f10,(x.f11,x.f12)))) (c0:=[.int .i64 x.f8]) (c1:=[v0,v1,v2,.string x.f12]) hd rfl (pair_app (a:=(Zd.slice 3 (Zd.int .i64))) (b:=(Zd.pair (Zd.slice 9 Zd.string) (Zd.pair (Zd.slice 9 Zd.string) Zd.string))) (w:=w) (S:=S) (js1:=[j0]) (js2:=[j1,j2]) (x:=x.f9) (y:=(x.f10,(x.f11,x.f12))) (c0:=[v0]) (c1:=[v1,v2,.string x.f12]) hd (made_one h0) (pair_app (a:=(Zd.slice 9 Zd.string)) (b:=(Zd.pair (Zd.slice 9 Zd.string) Zd.string)) (w:=w) (S:=S) (js1:=[j1]) (js2:=[j2]) (x:=x.f10) (y:=(x.f11,x.f12)) (c0:=[v1]) (c1:=[v2,.string x.f12]) hd (made_one h1) (pair_app (a:=(Zd.slice 9 Zd.string)) (b:=Zd.string) (w:=w) (S:=S) (js1:=[j2]) (js2:=[]) (x:=x.f11) (y:=x.f12) (c0:=[v2]) (c1:=[.string x.f12]) hd (made_one h2) rfl (nod_drop 2 hn)) (nod_drop 1 hn)) hn) hn) hn) hn) hn) hn) hn) hn) hn) hn))
theorem q39_pack {w:World}{S:Nat→FP}{x:S39}{v0 v1:Value}{j0 j1:Nat}(hd:∀i j k,i≠j→S i k→¬S j k)(h0:(Zd.slice 3 (Zd.int .i64)).M w (S j0) x.f1 [v0])(h1:(Zd.slice 3 (Zd.int .i64)).M w (S j1) x.f2.f1 [v1])(hn:[j0,j1].Nodup):q39.M w (fun k=>∃i,i∈ [j0,j1]∧S i k) x [.int .i64 x.f0,v0,.int .i64 x.f2.f0,v1,.bool x.f2.f2,.bool x.f2.f3,.int .i64 x.f2.f4]:=((pair_app (a:=(Zd.int .i64)) (b:=(Zd.pair (Zd.slice 3 (Zd.int .i64)) q37)) (w:=w) (S:=S) (js1:=[]) (js2:=[j0,j1]) (x:=x.f0) (y:=(x.f1,x.f2)) (c0:=[.int .i64 x.f0]) (c1:=[v0,.int .i64 x.f2.f0,v1,.bool x.f2.f2,.bool x.f2.f3,.int .i64 x.f2.f4]) hd rfl (pair_app (a:=(Zd.slice 3 (Zd.int .i64))) (b:=q37) (w:=w) (S:=S) (js1:=[j0]) (js2:=[j1]) (x:=x.f1) (y:=x.f2) (c0:=[v0]) (c1:=[.int .i64 x.f2.f0,v1,.bool x.f2.f2,.bool x.f2.f3,.int .i64 x.f2.f4]) hd (made_one h0) (pair_app (a:=(Zd.int .i64)) (b:=(Zd.pair (Zd.slice 3 (Zd.int .i64)) (Zd.pair Zd.bool (Zd.pair Zd.bool (Zd.int .i64))))) (w:=w) (S:=S) (js1:=[]) (js2:=[j1]) (x:=x.f2.f0) (y:=(x.f2.f1,(x.f2.f2,(x.f2.f3,x.f2.f4)))) (c0:=[.int .i64 x.f2.f0]) (c1:=[v1,.bool x.f2.f2,.bool x.f2.f3,.int .i64 x.f2.f4]) hd rfl (pair_app (a:=(Zd.slice 3 (Zd.int .i64))) (b:=(Zd.pair Zd.bool (Zd.pair Zd.bool (Zd.int .i64)))) (w:=w) (S:=S) (js1:=[j1]) (js2:=[]) (x:=x.f2.f1) (y:=(x.f2.f2,(x.f2.f3,x.f2.f4))) (c0:=[v1]) (c1:=[.bool x.f2.f2,.bool x.f2.f3,.int .i64 x.f2.f4]) hd (made_one h1) (pair_app (a:=Zd.bool) (b:=(Zd.pair Zd.bool (Zd.int .i64))) (w:=w) (S:=S) (js1:=[]) (js2:=[]) (x:=x.f2.f2) (y:=(x.f2.f3,x.f2.f4)) (c0:=[.bool x.f2.f2]) (c1:=[.bool x.f2.f3,.int .i64 x.f2.f4]) hd rfl (pair_app (a:=Zd.bool) (b:=(Zd.int .i64)) (w:=w) (S:=S) (js1:=[]) (js2:=[]) (x:=x.f2.f3) (y:=x.f2.f4) (c0:=[.bool x.f2.f3]) (c1:=[.int .i64 x.f2.f4]) hd rfl rfl List.nodup_nil) List.nodup_nil) (nod_drop 1 hn)) (nod_drop 1 hn)) hn) hn))
theorem q133_flat (w:World)(S:FP)(x:S133):q133.M w S x [.int .i64 x.f0,.int .i64 x.f1]:=made_none (a:=q133) ((pair_app (a:=(Zd.int .i64)) (b:=(Zd.int .i64)) (w:=w) (S:=(fun(_:Nat) (_:Nat)=>False)) (js1:=[]) (js2:=[]) (x:=x.f0) (y:=x.f1) (c0:=[.int .i64 x.f0]) (c1:=[.int .i64 x.f1]) hd_none rfl rfl List.nodup_nil))
theorem q103_pack {w:World}{S:Nat→FP}{x:S103}{v0:Value}{j0:Nat}(hd:∀i j k,i≠j→S i k→¬S j k)(h0:(Zd.slice 133 q133).M w (S j0) x.f5 [v0])(hn:[j0].Nodup):q103.M w (fun k=>∃i,i∈ [j0]∧S i k) x [.string x.f0,.int .i64 x.f1,.int .i64 x.f2,.int .i64 x.f3,.int .i64 x.f4,v0,.string x.f6]:=((pair_app (a:=Zd.string) (b:=(Zd.pair (Zd.int .i64) (Zd.pair (Zd.int .i64) (Zd.pair (Zd.int .i64) (Zd.pair (Zd.int .i64) (Zd.pair (Zd.slice 133 q133) Zd.string)))))) (w:=w) (S:=S) (js1:=[]) (js2:=[j0]) (x:=x.f0) (y:=(x.f1,(x.f2,(x.f3,(x.f4,(x.f5,x.f6)))))) (c0:=[.string x.f0]) (c1:=[.int .i64 x.f1,.int .i64 x.f2,.int .i64 x.f3,.int .i64 x.f4,v0,.string x.f6]) hd rfl (pair_app (a:=(Zd.int .i64)) (b:=(Zd.pair (Zd.int .i64) (Zd.pair (Zd.int .i64) (Zd.pair (Zd.int .i64) (Zd.pair (Zd.slice 133 q133) Zd.string))))) (w:=w) (S:=S) (js1:=[]) (js2:=[j0]) (x:=x.f1) (y:=(x.f2,(x.f3,(x.f4,(x.f5,x.f6))))) (c0:=[.int .i64 x.f1]) (c1:=[.int .i64 x.f2,.int .i64 x.f3,.int .i64 x.f4,v0,.string x.f6]) hd rfl (pair_app (a:=(Zd.int .i64)) (b:=(Zd.pair (Zd.int .i64) (Zd.pair (Zd.int .i64) (Zd.pair (Zd.slice 133 q133) Zd.string)))) (w:=w) (S:=S) (js1:=[]) (js2:=[j0]) (x:=x.f2) (y:=(x.f3,(x.f4,(x.f5,x.f6)))) (c0:=[.int .i64 x.f2]) (c1:=[.int .i64 x.f3,.int .i64 x.f4,v0,.string x.f6]) hd rfl (pair_app (a:=(Zd.int .i64)) (b:=(Zd.pair (Zd.int .i64) (Zd.pair (Zd.slice 133 q133) Zd.string))) (w:=w) (S:=S) (js1:=[]) (js2:=[j0]) (x:=x.f3) (y:=(x.f4,(x.f5,x.f6))) (c0:=[.int .i64 x.f3]) (c1:=[.int .i64 x.f4,v0,.string x.f6]) hd rfl (pair_app (a:=(Zd.int .i64)) (b:=(Zd.pair (Zd.slice 133 q133) Zd.string)) (w:=w) (S:=S) (js1:=[]) (js2:=[j0]) (x:=x.f4) (y:=(x.f5,x.f6)) (c0:=[.int .i64 x.f4]) (c1:=[v0,.string x.f6]) hd rfl (pair_app (a:=(Zd.slice 133 q133)) (b:=Zd.string) (w:=w) (S:=S) (js1:=[j0]) (js2:=[]) (x:=x.f5) (y:=x.f6) (c0:=[v0]) (c1:=[.string x.f6]) hd (made_one h0) rfl hn) hn) hn) hn) hn) hn))
theorem q105_flat (w:World)(S:FP)(x:S105):q105.M w S x [.string x.f0,.string x.f1]:=made_none (a:=q105) ((pair_app (a:=Zd.string) (b:=Zd.string) (w:=w) (S:=(fun(_:Nat) (_:Nat)=>False)) (js1:=[]) (js2:=[]) (x:=x.f0) (y:=x.f1) (c0:=[.string x.f0]) (c1:=[.string x.f1]) hd_none rfl rfl List.nodup_nil))
def eqS105 (x0:ByteArray)(x1:ByteArray)(y0:ByteArray)(y1:ByteArray):Bool:=((x0.toList==y0.toList)&&(x1.toList==y1.toList))
theorem eqA105 (w:World)(x0:ByteArray)(x1:ByteArray)(y0:ByteArray)(y1:ByteArray):(Op.equalIn 10000 105 (.agg #[.string x0,.string x1]) (.agg #[.string y0,.string y1])).run Tryz.prog w=.ok (eqS105 x0 x1 y0 y1) w:=by
  refine eqA_of (d:=9999) Tryz.underlying105 (by kernel_rfl) ?_
  refine eqf_cons (by rfl) (by go_simp;rfl) (by go_simp;rfl) (by go_simp) ?_
  exact eqf_last (by rfl) (by go_simp;rfl) (by go_simp;rfl) (by go_simp)
def eqS133 (x0:Int)(x1:Int)(y0:Int)(y1:Int):Bool:=((x0==y0)&&(x1==y1))
theorem eqA133 (w:World)(x0:Int)(x1:Int)(y0:Int)(y1:Int):(Op.equalIn 10000 133 (.agg #[.int .i64 x0,.int .i64 x1]) (.agg #[.int .i64 y0,.int .i64 y1])).run Tryz.prog w=.ok (eqS133 x0 x1 y0 y1) w:=by
  refine eqA_of (d:=9999) Tryz.underlying133 (by kernel_rfl) ?_
  refine eqf_cons (by rfl) (by go_simp;rfl) (by go_simp;rfl) (by go_simp) ?_
  exact eqf_last (by rfl) (by go_simp;rfl) (by go_simp;rfl) (by go_simp)
end Go.Proofs.YtfcpjeeeddjakaaGreat.F

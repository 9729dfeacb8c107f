import Derived.Test.YtncddikfafgklaaGreatDoorProg
import Derived.Test.YtncddikfafgklaaGreatDoorZLib
import Derived.Test.YtncddikfafgklaaGreatDoorZMix
namespace Go.Proofs.YtncddikfafgklaaGreatDoor.F
open Go.RowKit YtncddikfafgklaaGreatDoorW.PrintWords YtncddikfafgklaaGreatDoorW.PrintLast YtncddikfafgklaaGreatDoorW.PrintMore Z
attribute [local go_sem] max2_int min2_int max_two min_two max_three min_three max_four min_four
set_option linter.unusedVariables false
set_option linter.unusedSimpArgs false
set_option maxRecDepth 100000
structure S30 where
  f0:Int
  f1:ByteArray
  f2:ByteArray
  f3:Int
  f4:Int
  f5:ByteArray
  f6:Bool
  f7:Int
  f8:Int
  f9:(List Int)
  f10:(List ByteArray)
  f11:(List ByteArray)
  f12:ByteArray
def z30:S30:=⟨(0:Int),(⟨#[]⟩:ByteArray),(⟨#[]⟩:ByteArray),(0:Int),(0:Int),(⟨#[]⟩:ByteArray),false,(0:Int),(0:Int),([]:List Int),([]:List ByteArray),([]:List ByteArray),(⟨#[]⟩:ByteArray)⟩
def k30:Kd S30:=Kd.iso (Kd.pair (Kd.int .i64) (Kd.pair Kd.string (Kd.pair Kd.string (Kd.pair (Kd.int .i64) (Kd.pair (Kd.int .i64) (Kd.pair Kd.string (Kd.pair Kd.bool (Kd.pair (Kd.int .i64) (Kd.pair (Kd.int .i64) (Kd.pair (Kd.slice 3 (Kd.int .i64)) (Kd.pair (Kd.slice 9 Kd.string) (Kd.pair (Kd.slice 9 Kd.string) Kd.string)))))))))))) (fun x:S30=>(x.f0,x.f1,x.f2,x.f3,x.f4,x.f5,x.f6,x.f7,x.f8,x.f9,x.f10,x.f11,x.f12))
theorem k30_open {w:World}{x:S30}{cs:List Value}(h:k30.K w x cs):∃A9 c9 A10 c10 A11 c11,cs=[.int .i64 x.f0,.string x.f1,.string x.f2,.int .i64 x.f3,.int .i64 x.f4,.string x.f5,.bool x.f6,.int .i64 x.f7,.int .i64 x.f8,.slice A9 x.f9.length c9,.slice A10 x.f10.length c10,.slice A11 x.f11.length c11,.string x.f12]∧x.f9.length≤c9∧(Kd.int .i64).C w A9 x.f9.length x.f9∧x.f10.length≤c10∧Kd.string.C w A10 x.f10.length x.f10∧x.f11.length≤c11∧Kd.string.C w A11 x.f11.length x.f11:=by
  obtain⟨_,_,rfl,rfl,⟨_,_,rfl,rfl,⟨_,_,rfl,rfl,⟨_,_,rfl,rfl,⟨_,_,rfl,rfl,⟨_,_,rfl,rfl,⟨_,_,rfl,rfl,⟨_,_,rfl,rfl,⟨_,_,rfl,rfl,⟨_,_,rfl,⟨A9,c9,rfl,l9,g9⟩,⟨_,_,rfl,⟨A10,c10,rfl,l10,g10⟩,⟨_,_,rfl,⟨A11,c11,rfl,l11,g11⟩,rfl⟩⟩⟩⟩⟩⟩⟩⟩⟩⟩⟩⟩:=h
  exact⟨A9,c9,A10,c10,A11,c11,rfl,l9,g9,l10,g10,l11,g11⟩
def rd_T30 (xs:List S30)(i:Int):S30:=xs.getD i.toNat z30
theorem at_T30 {w:World}{A:Option Addr}{n:Nat}{xs:List S30}(h:Kd.C k30 w A n xs)(i:Int)(h0:0≤i)(h1:i<n):∃ad A9 c9 A10 c10 A11 c11,A=some ad∧w.cell? (ad.add (i.toNat * 13))=some (.int .i64 (rd_T30 xs i).f0)∧w.cell? ⟨(ad.add (i.toNat * 13)).block,(ad.add (i.toNat * 13)).off+1,none⟩=some (.string (rd_T30 xs i).f1)∧w.cell? ⟨(ad.add (i.toNat * 13)).block,(ad.add (i.toNat * 13)).off+2,none⟩=some (.string (rd_T30 xs i).f2)∧w.cell? ⟨(ad.add (i.toNat * 13)).block,(ad.add (i.toNat * 13)).off+3,none⟩=some (.int .i64 (rd_T30 xs i).f3)∧w.cell? ⟨(ad.add (i.toNat * 13)).block,(ad.add (i.toNat * 13)).off+4,none⟩=some (.int .i64 (rd_T30 xs i).f4)∧w.cell? ⟨(ad.add (i.toNat * 13)).block,(ad.add (i.toNat * 13)).off+5,none⟩=some (.string (rd_T30 xs i).f5)∧w.cell? ⟨(ad.add (i.toNat * 13)).block,(ad.add (i.toNat * 13)).off+6,none⟩=some (.bool (rd_T30 xs i).f6)∧w.cell? ⟨(ad.add (i.toNat * 13)).block,(ad.add (i.toNat * 13)).off+7,none⟩=some (.int .i64 (rd_T30 xs i).f7)∧w.cell? ⟨(ad.add (i.toNat * 13)).block,(ad.add (i.toNat * 13)).off+8,none⟩=some (.int .i64 (rd_T30 xs i).f8)∧w.cell? ⟨(ad.add (i.toNat * 13)).block,(ad.add (i.toNat * 13)).off+9,none⟩=some (.slice A9 (rd_T30 xs i).f9.length c9)∧w.cell? ⟨(ad.add (i.toNat * 13)).block,(ad.add (i.toNat * 13)).off+10,none⟩=some (.slice A10 (rd_T30 xs i).f10.length c10)∧w.cell? ⟨(ad.add (i.toNat * 13)).block,(ad.add (i.toNat * 13)).off+11,none⟩=some (.slice A11 (rd_T30 xs i).f11.length c11)∧w.cell? ⟨(ad.add (i.toNat * 13)).block,(ad.add (i.toNat * 13)).off+12,none⟩=some (.string (rd_T30 xs i).f12)∧(rd_T30 xs i).f9.length≤c9∧(Kd.int .i64).C w A9 (rd_T30 xs i).f9.length (rd_T30 xs i).f9∧(rd_T30 xs i).f10.length≤c10∧Kd.string.C w A10 (rd_T30 xs i).f10.length (rd_T30 xs i).f10∧(rd_T30 xs i).f11.length≤c11∧Kd.string.C w A11 (rd_T30 xs i).f11.length (rd_T30 xs i).f11:=by
  obtain⟨ad,c,e,_,hK,hc0⟩:=Kd.C_get h z30 i h0 h1
  have hc:∀j u,c[j]?=some u→w.cell? (ad.add (i.toNat * 13+j))=some u:=hc0
  obtain⟨A9,c9,A10,c10,A11,c11,rfl,l9,g9,l10,g10,l11,g11⟩:=k30_open hK
  exact⟨ad,A9,c9,A10,c10,A11,c11,e,hc 0 _ rfl,by rw [←add_field _ _ 1 (by omega)];exact hc 1 _ rfl,by rw [←add_field _ _ 2 (by omega)];exact hc 2 _ rfl,by rw [←add_field _ _ 3 (by omega)];exact hc 3 _ rfl,by rw [←add_field _ _ 4 (by omega)];exact hc 4 _ rfl,by rw [←add_field _ _ 5 (by omega)];exact hc 5 _ rfl,by rw [←add_field _ _ 6 (by omega)];exact hc 6 _ rfl,by rw [←add_field _ _ 7 (by omega)];exact hc 7 _ rfl,by rw [←add_field _ _ 8 (by omega)];exact hc 8 _ rfl,by rw [←add_field _ _ 9 (by omega)];exact hc 9 _ rfl,by rw [←add_field _ _ 10 (by omega)];exact hc 10 _ rfl,by rw [←add_field _ _ 11 (by omega)];exact hc 11 _ rfl,by rw [←add_field _ _ 12 (by omega)];exact hc 12 _ rfl,l9,g9,l10,g10,l11,g11⟩
structure S189 where
  f0:Int
  f1:Int
def z189:S189:=⟨(0:Int),(0:Int)⟩
def k189:Kd S189:=Kd.iso (Kd.pair (Kd.int .i64) (Kd.int .i64)) (fun x:S189=>(x.f0,x.f1))
theorem k189_open {w:World}{x:S189}{cs:List Value}(h:k189.K w x cs):cs=[.int .i64 x.f0,.int .i64 x.f1]:=by
  obtain⟨_,_,rfl,rfl,rfl⟩:=h
  exact rfl
def rd_T189 (xs:List S189)(i:Int):S189:=xs.getD i.toNat z189
theorem at_T189 {w:World}{A:Option Addr}{n:Nat}{xs:List S189}(h:Kd.C k189 w A n xs)(i:Int)(h0:0≤i)(h1:i<n):∃ad,A=some ad∧w.cell? (ad.add (i.toNat * 2))=some (.int .i64 (rd_T189 xs i).f0)∧w.cell? ⟨(ad.add (i.toNat * 2)).block,(ad.add (i.toNat * 2)).off+1,none⟩=some (.int .i64 (rd_T189 xs i).f1):=by
  obtain⟨ad,c,e,_,hK,hc0⟩:=Kd.C_get h z189 i h0 h1
  have hc:∀j u,c[j]?=some u→w.cell? (ad.add (i.toNat * 2+j))=some u:=hc0
  obtain rfl:=k189_open hK
  exact⟨ad,e,hc 0 _ rfl,by rw [←add_field _ _ 1 (by omega)];exact hc 1 _ rfl⟩
structure S124 where
  f0:ByteArray
  f1:Int
  f2:Int
  f3:Int
  f4:Int
  f5:(List S189)
  f6:ByteArray
def z124:S124:=⟨(⟨#[]⟩:ByteArray),(0:Int),(0:Int),(0:Int),(0:Int),([]:List S189),(⟨#[]⟩:ByteArray)⟩
def k124:Kd S124:=Kd.iso (Kd.pair Kd.string (Kd.pair (Kd.int .i64) (Kd.pair (Kd.int .i64) (Kd.pair (Kd.int .i64) (Kd.pair (Kd.int .i64) (Kd.pair (Kd.slice 189 k189) Kd.string)))))) (fun x:S124=>(x.f0,x.f1,x.f2,x.f3,x.f4,x.f5,x.f6))
theorem k124_open {w:World}{x:S124}{cs:List Value}(h:k124.K w x cs):∃A5 c5,cs=[.string x.f0,.int .i64 x.f1,.int .i64 x.f2,.int .i64 x.f3,.int .i64 x.f4,.slice A5 x.f5.length c5,.string x.f6]∧x.f5.length≤c5∧k189.C w A5 x.f5.length x.f5:=by
  obtain⟨_,_,rfl,rfl,⟨_,_,rfl,rfl,⟨_,_,rfl,rfl,⟨_,_,rfl,rfl,⟨_,_,rfl,rfl,⟨_,_,rfl,⟨A5,c5,rfl,l5,g5⟩,rfl⟩⟩⟩⟩⟩⟩:=h
  exact⟨A5,c5,rfl,l5,g5⟩
def rd_T124 (xs:List S124)(i:Int):S124:=xs.getD i.toNat z124
theorem at_T124 {w:World}{A:Option Addr}{n:Nat}{xs:List S124}(h:Kd.C k124 w A n xs)(i:Int)(h0:0≤i)(h1:i<n):∃ad A5 c5,A=some ad∧w.cell? (ad.add (i.toNat * 7))=some (.string (rd_T124 xs i).f0)∧w.cell? ⟨(ad.add (i.toNat * 7)).block,(ad.add (i.toNat * 7)).off+1,none⟩=some (.int .i64 (rd_T124 xs i).f1)∧w.cell? ⟨(ad.add (i.toNat * 7)).block,(ad.add (i.toNat * 7)).off+2,none⟩=some (.int .i64 (rd_T124 xs i).f2)∧w.cell? ⟨(ad.add (i.toNat * 7)).block,(ad.add (i.toNat * 7)).off+3,none⟩=some (.int .i64 (rd_T124 xs i).f3)∧w.cell? ⟨(ad.add (i.toNat * 7)).block,(ad.add (i.toNat * 7)).off+4,none⟩=some (.int .i64 (rd_T124 xs i).f4)∧w.cell? ⟨(ad.add (i.toNat * 7)).block,(ad.add (i.toNat * 7)).off+5,none⟩=some (.slice A5 (rd_T124 xs i).f5.length c5)∧w.cell? ⟨(ad.add (i.toNat * 7)).block,(ad.add (i.toNat * 7)).off+6,none⟩=some (.string (rd_T124 xs i).f6)∧(rd_T124 xs i).f5.length≤c5∧k189.C w A5 (rd_T124 xs i).f5.length (rd_T124 xs i).f5:=by
  obtain⟨ad,c,e,_,hK,hc0⟩:=Kd.C_get h z124 i h0 h1
  have hc:∀j u,c[j]?=some u→w.cell? (ad.add (i.toNat * 7+j))=some u:=hc0
  obtain⟨A5,c5,rfl,l5,g5⟩:=k124_open hK
  exact⟨ad,A5,c5,e,hc 0 _ rfl,by rw [←add_field _ _ 1 (by omega)];exact hc 1 _ rfl,by rw [←add_field _ _ 2 (by omega)];exact hc 2 _ rfl,by rw [←add_field _ _ 3 (by omega)];exact hc 3 _ rfl,by rw [←add_field _ _ 4 (by omega)];exact hc 4 _ rfl,by rw [←add_field _ _ 5 (by omega)];exact hc 5 _ rfl,by rw [←add_field _ _ 6 (by omega)];exact hc 6 _ rfl,l5,g5⟩
structure S126 where
  f0:ByteArray
  f1:ByteArray
def z126:S126:=⟨(⟨#[]⟩:ByteArray),(⟨#[]⟩:ByteArray)⟩
def k126:Kd S126:=Kd.iso (Kd.pair Kd.string Kd.string) (fun x:S126=>(x.f0,x.f1))
theorem k126_open {w:World}{x:S126}{cs:List Value}(h:k126.K w x cs):cs=[.string x.f0,.string x.f1]:=by
  obtain⟨_,_,rfl,rfl,rfl⟩:=h
  exact rfl
def rd_T126 (xs:List S126)(i:Int):S126:=xs.getD i.toNat z126
theorem at_T126 {w:World}{A:Option Addr}{n:Nat}{xs:List S126}(h:Kd.C k126 w A n xs)(i:Int)(h0:0≤i)(h1:i<n):∃ad,A=some ad∧w.cell? (ad.add (i.toNat * 2))=some (.string (rd_T126 xs i).f0)∧w.cell? ⟨(ad.add (i.toNat * 2)).block,(ad.add (i.toNat * 2)).off+1,none⟩=some (.string (rd_T126 xs i).f1):=by
  obtain⟨ad,c,e,_,hK,hc0⟩:=Kd.C_get h z126 i h0 h1
  have hc:∀j u,c[j]?=some u→w.cell? (ad.add (i.toNat * 2+j))=some u:=hc0
  obtain rfl:=k126_open hK
  exact⟨ad,e,hc 0 _ rfl,by rw [←add_field _ _ 1 (by omega)];exact hc 1 _ rfl⟩
structure S26 where
  f0:(List S30)
  f1:(List S124)
  f2:(List S126)
def k26:Kd S26:=Kd.iso (Kd.pair (Kd.slice 30 k30) (Kd.pair (Kd.slice 124 k124) (Kd.slice 126 k126))) (fun x:S26=>(x.f0,x.f1,x.f2))
structure S41 where
  f0:Int
  f1:ByteArray
  f2:ByteArray
  f3:Int
  f4:Int
  f5:ByteArray
  f6:Bool
  f7:Int
  f8:Int
  f9:(List Int)
  f10:(List ByteArray)
  f11:(List ByteArray)
  f12:ByteArray
def z41:S41:=⟨(0:Int),(⟨#[]⟩:ByteArray),(⟨#[]⟩:ByteArray),(0:Int),(0:Int),(⟨#[]⟩:ByteArray),false,(0:Int),(0:Int),([]:List Int),([]:List ByteArray),([]:List ByteArray),(⟨#[]⟩:ByteArray)⟩
def k41:Kd S41:=Kd.iso (Kd.pair (Kd.int .i64) (Kd.pair Kd.string (Kd.pair Kd.string (Kd.pair (Kd.int .i64) (Kd.pair (Kd.int .i64) (Kd.pair Kd.string (Kd.pair Kd.bool (Kd.pair (Kd.int .i64) (Kd.pair (Kd.int .i64) (Kd.pair (Kd.slice 3 (Kd.int .i64)) (Kd.pair (Kd.slice 9 Kd.string) (Kd.pair (Kd.slice 9 Kd.string) Kd.string)))))))))))) (fun x:S41=>(x.f0,x.f1,x.f2,x.f3,x.f4,x.f5,x.f6,x.f7,x.f8,x.f9,x.f10,x.f11,x.f12))
theorem k41_open {w:World}{x:S41}{cs:List Value}(h:k41.K w x cs):∃A9 c9 A10 c10 A11 c11,cs=[.int .i64 x.f0,.string x.f1,.string x.f2,.int .i64 x.f3,.int .i64 x.f4,.string x.f5,.bool x.f6,.int .i64 x.f7,.int .i64 x.f8,.slice A9 x.f9.length c9,.slice A10 x.f10.length c10,.slice A11 x.f11.length c11,.string x.f12]∧x.f9.length≤c9∧(Kd.int .i64).C w A9 x.f9.length x.f9∧x.f10.length≤c10∧Kd.string.C w A10 x.f10.length x.f10∧x.f11.length≤c11∧Kd.string.C w A11 x.f11.length x.f11:=by
  obtain⟨_,_,rfl,rfl,⟨_,_,rfl,rfl,⟨_,_,rfl,rfl,⟨_,_,rfl,rfl,⟨_,_,rfl,rfl,⟨_,_,rfl,rfl,⟨_,_,rfl,rfl,⟨_,_,rfl,rfl,⟨_,_,rfl,rfl,⟨_,_,rfl,⟨A9,c9,rfl,l9,g9⟩,⟨_,_,rfl,⟨A10,c10,rfl,l10,g10⟩,⟨_,_,rfl,⟨A11,c11,rfl,l11,g11⟩,rfl⟩⟩⟩⟩⟩⟩⟩⟩⟩⟩⟩⟩:=h
  exact⟨A9,c9,A10,c10,A11,c11,rfl,l9,g9,l10,g10,l11,g11⟩
theorem k41_mk (w:World)(x:S41){A9:Option Addr}{c9:Nat}(l9:x.f9.length≤c9)(g9:(Kd.int .i64).C w A9 x.f9.length x.f9){A10:Option Addr}{c10:Nat}(l10:x.f10.length≤c10)(g10:Kd.string.C w A10 x.f10.length x.f10){A11:Option Addr}{c11:Nat}(l11:x.f11.length≤c11)(g11:Kd.string.C w A11 x.f11.length x.f11):k41.K w x [.int .i64 x.f0,.string x.f1,.string x.f2,.int .i64 x.f3,.int .i64 x.f4,.string x.f5,.bool x.f6,.int .i64 x.f7,.int .i64 x.f8,.slice A9 x.f9.length c9,.slice A10 x.f10.length c10,.slice A11 x.f11.length c11,.string x.f12]:=⟨[.int .i64 x.f0],[.string x.f1,.string x.f2,.int .i64 x.f3,.int .i64 x.f4,.string x.f5,.bool x.f6,.int .i64 x.f7,.int .i64 x.f8,.slice A9 x.f9.length c9,.slice A10 x.f10.length c10,.slice A11 x.f11.length c11,.string x.f12],rfl,rfl,⟨[.string x.f1],[.string x.f2,.int .i64 x.f3,.int .i64 x.f4,.string x.f5,.bool x.f6,.int .i64 x.f7,.int .i64 x.f8,.slice A9 x.f9.length c9,.slice A10 x.f10.length c10,.slice A11 x.f11.length c11,.string x.f12],rfl,rfl,⟨[.string x.f2],[.int .i64 x.f3,.int .i64 x.f4,.string x.f5,.bool x.f6,.int .i64 x.f7,.int .i64 x.f8,.slice A9 x.f9.length c9,.slice A10 x.f10.length c10,.slice A11 x.f11.length c11,.string x.f12],rfl,rfl,⟨[.int .i64 x.f3],[.int .i64 x.f4,.string x.f5,.bool x.f6,.int .i64 x.f7,.int .i64 x.f8,.slice A9 x.f9.length c9,.slice A10 x.f10.length c10,.slice A11 x.f11.length c11,.string x.f12],rfl,rfl,⟨[.int .i64 x.f4],[.string x.f5,.bool x.f6,.int .i64 x.f7,.int .i64 x.f8,.slice A9 x.f9.length c9,.slice A10 x.f10.length c10,.slice A11 x.f11.length c11,.string x.f12],rfl,rfl,⟨[.string x.f5],[.bool x.f6,.int .i64 x.f7,.int .i64 x.f8,.slice A9 x.f9.length c9,.slice A10 x.f10.length c10,.slice A11 x.f11.length c11,.string x.f12],rfl,rfl,⟨[.bool x.f6],[.int .i64 x.f7,.int .i64 x.f8,.slice A9 x.f9.length c9,.slice A10 x.f10.length c10,.slice A11 x.f11.length c11,.string x.f12],rfl,rfl,⟨[.int .i64 x.f7],[.int .i64 x.f8,.slice A9 x.f9.length c9,.slice A10 x.f10.length c10,.slice A11 x.f11.length c11,.string x.f12],rfl,rfl,⟨[.int .i64 x.f8],[.slice A9 x.f9.length c9,.slice A10 x.f10.length c10,.slice A11 x.f11.length c11,.string x.f12],rfl,rfl,⟨[.slice A9 x.f9.length c9],[.slice A10 x.f10.length c10,.slice A11 x.f11.length c11,.string x.f12],rfl,⟨A9,c9,rfl,l9,g9⟩,⟨[.slice A10 x.f10.length c10],[.slice A11 x.f11.length c11,.string x.f12],rfl,⟨A10,c10,rfl,l10,g10⟩,⟨[.slice A11 x.f11.length c11],[.string x.f12],rfl,⟨A11,c11,rfl,l11,g11⟩,rfl⟩⟩⟩⟩⟩⟩⟩⟩⟩⟩⟩⟩
def rd_T41 (xs:List S41)(i:Int):S41:=xs.getD i.toNat z41
theorem at_T41 {w:World}{A:Option Addr}{n:Nat}{xs:List S41}(h:Kd.C k41 w A n xs)(i:Int)(h0:0≤i)(h1:i<n):∃ad A9 c9 A10 c10 A11 c11,A=some ad∧w.cell? (ad.add (i.toNat * 13))=some (.int .i64 (rd_T41 xs i).f0)∧w.cell? ⟨(ad.add (i.toNat * 13)).block,(ad.add (i.toNat * 13)).off+1,none⟩=some (.string (rd_T41 xs i).f1)∧w.cell? ⟨(ad.add (i.toNat * 13)).block,(ad.add (i.toNat * 13)).off+2,none⟩=some (.string (rd_T41 xs i).f2)∧w.cell? ⟨(ad.add (i.toNat * 13)).block,(ad.add (i.toNat * 13)).off+3,none⟩=some (.int .i64 (rd_T41 xs i).f3)∧w.cell? ⟨(ad.add (i.toNat * 13)).block,(ad.add (i.toNat * 13)).off+4,none⟩=some (.int .i64 (rd_T41 xs i).f4)∧w.cell? ⟨(ad.add (i.toNat * 13)).block,(ad.add (i.toNat * 13)).off+5,none⟩=some (.string (rd_T41 xs i).f5)∧w.cell? ⟨(ad.add (i.toNat * 13)).block,(ad.add (i.toNat * 13)).off+6,none⟩=some (.bool (rd_T41 xs i).f6)∧w.cell? ⟨(ad.add (i.toNat * 13)).block,(ad.add (i.toNat * 13)).off+7,none⟩=some (.int .i64 (rd_T41 xs i).f7)∧w.cell? ⟨(ad.add (i.toNat * 13)).block,(ad.add (i.toNat * 13)).off+8,none⟩=some (.int .i64 (rd_T41 xs i).f8)∧w.cell? ⟨(ad.add (i.toNat * 13)).block,(ad.add (i.toNat * 13)).off+9,none⟩=some (.slice A9 (rd_T41 xs i).f9.length c9)∧w.cell? ⟨(ad.add (i.toNat * 13)).block,(ad.add (i.toNat * 13)).off+10,none⟩=some (.slice A10 (rd_T41 xs i).f10.length c10)∧w.cell? ⟨(ad.add (i.toNat * 13)).block,(ad.add (i.toNat * 13)).off+11,none⟩=some (.slice A11 (rd_T41 xs i).f11.length c11)∧w.cell? ⟨(ad.add (i.toNat * 13)).block,(ad.add (i.toNat * 13)).off+12,none⟩=some (.string (rd_T41 xs i).f12)∧(rd_T41 xs i).f9.length≤c9∧(Kd.int .i64).C w A9 (rd_T41 xs i).f9.length (rd_T41 xs i).f9∧(rd_T41 xs i).f10.length≤c10∧Kd.string.C w A10 (rd_T41 xs i).f10.length (rd_T41 xs i).f10∧(rd_T41 xs i).f11.length≤c11∧Kd.string.C w A11 (rd_T41 xs i).f11.length (rd_T41 xs i).f11:=by
  obtain⟨ad,c,e,_,hK,hc0⟩:=Kd.C_get h z41 i h0 h1
  have hc:∀j u,c[j]?=some u→w.cell? (ad.add (i.toNat * 13+j))=some u:=hc0
  obtain⟨A9,c9,A10,c10,A11,c11,rfl,l9,g9,l10,g10,l11,g11⟩:=k41_open hK
  exact⟨ad,A9,c9,A10,c10,A11,c11,e,hc 0 _ rfl,by rw [←add_field _ _ 1 (by omega)];exact hc 1 _ rfl,by rw [←add_field _ _ 2 (by omega)];exact hc 2 _ rfl,by rw [←add_field _ _ 3 (by omega)];exact hc 3 _ rfl,by rw [←add_field _ _ 4 (by omega)];exact hc 4 _ rfl,by rw [←add_field _ _ 5 (by omega)];exact hc 5 _ rfl,by rw [←add_field _ _ 6 (by omega)];exact hc 6 _ rfl,by rw [←add_field _ _ 7 (by omega)];exact hc 7 _ rfl,by rw [←add_field _ _ 8 (by omega)];exact hc 8 _ rfl,by rw [←add_field _ _ 9 (by omega)];exact hc 9 _ rfl,by rw [←add_field _ _ 10 (by omega)];exact hc 10 _ rfl,by rw [←add_field _ _ 11 (by omega)];exact hc 11 _ rfl,by rw [←add_field _ _ 12 (by omega)];exact hc 12 _ rfl,l9,g9,l10,g10,l11,g11⟩
structure S153 where
  f0:Int
  f1:ByteArray
  f2:(List S153)
def z153:S153:=⟨(0:Int),(⟨#[]⟩:ByteArray),([]:List S153)⟩
def F153 (d:Kd S153):Kd S153:=Kd.iso (Kd.pair (Kd.int .i64) (Kd.pair Kd.string (Kd.slice 153 d))) (fun x:S153=>(x.f0,x.f1,x.f2))
theorem mono153:Kd.Mono F153:=Kd.mono_iso _ (Kd.mono_pair (Kd.mono_const _) (Kd.mono_pair (Kd.mono_const _) (Kd.mono_slice 153 Kd.mono_id)))
theorem sub153:Kd.Sub F153 [153]:=Kd.sub_iso _ (Kd.sub_pair (Kd.sub_const _ (by decide)) (Kd.sub_pair (Kd.sub_const _ (by decide)) (Kd.sub_slice 153 (by decide) Kd.sub_id)))
theorem sz153:∀n,(Kd.upto F153 3 [153] n).sz=3:=Kd.upto_sz (fun _=>rfl)
def k153:Kd S153:=Kd.fix F153 3 [153] sz153 (Kd.upto_E sub153)
theorem k153_open {w:World}{x:S153}{cs:List Value}(h:k153.K w x cs):∃A2 c2,cs=[.int .i64 x.f0,.string x.f1,.slice A2 x.f2.length c2]∧x.f2.length≤c2∧k153.C w A2 x.f2.length x.f2:=by
  obtain⟨n,h⟩:=h
  cases n with
  |zero=>exact h.elim
  | succ n=>
    obtain⟨_,_,rfl,rfl,⟨_,_,rfl,rfl,⟨A2,c2,rfl,l2,g2⟩⟩⟩:=h
    exact⟨A2,c2,rfl,l2,Kd.fix_C g2⟩
theorem k153_mk (w:World)(x:S153){A2:Option Addr}{c2:Nat}(l2:x.f2.length≤c2)(g2:k153.C w A2 x.f2.length x.f2):k153.K w x [.int .i64 x.f0,.string x.f1,.slice A2 x.f2.length c2]:=by
  obtain⟨n2,q2⟩:=Kd.fix_C_back mono153 g2
  have r2:=Kd.upto_C_le mono153 sz153 (show n2≤n2 by omega) q2
  exact⟨n2+1,⟨[.int .i64 x.f0],[.string x.f1,.slice A2 x.f2.length c2],rfl,rfl,⟨[.string x.f1],[.slice A2 x.f2.length c2],rfl,rfl,⟨A2,c2,rfl,l2,r2⟩⟩⟩⟩
def rd_T153 (xs:List S153)(i:Int):S153:=xs.getD i.toNat z153
theorem at_T153 {w:World}{A:Option Addr}{n:Nat}{xs:List S153}(h:Kd.C k153 w A n xs)(i:Int)(h0:0≤i)(h1:i<n):∃ad A2 c2,A=some ad∧w.cell? (ad.add (i.toNat * 3))=some (.int .i64 (rd_T153 xs i).f0)∧w.cell? ⟨(ad.add (i.toNat * 3)).block,(ad.add (i.toNat * 3)).off+1,none⟩=some (.string (rd_T153 xs i).f1)∧w.cell? ⟨(ad.add (i.toNat * 3)).block,(ad.add (i.toNat * 3)).off+2,none⟩=some (.slice A2 (rd_T153 xs i).f2.length c2)∧(rd_T153 xs i).f2.length≤c2∧k153.C w A2 (rd_T153 xs i).f2.length (rd_T153 xs i).f2:=by
  obtain⟨ad,c,e,_,hK,hc0⟩:=Kd.C_get h z153 i h0 h1
  have hc:∀j u,c[j]?=some u→w.cell? (ad.add (i.toNat * 3+j))=some u:=hc0
  obtain⟨A2,c2,rfl,l2,g2⟩:=k153_open hK
  exact⟨ad,A2,c2,e,hc 0 _ rfl,by rw [←add_field _ _ 1 (by omega)];exact hc 1 _ rfl,by rw [←add_field _ _ 2 (by omega)];exact hc 2 _ rfl,l2,g2⟩
structure S163 where
  f0:Int
  f1:Int
def z163:S163:=⟨(0:Int),(0:Int)⟩
def k163:Kd S163:=Kd.iso (Kd.pair (Kd.int .i64) (Kd.int .i64)) (fun x:S163=>(x.f0,x.f1))
theorem k163_open {w:World}{x:S163}{cs:List Value}(h:k163.K w x cs):cs=[.int .i64 x.f0,.int .i64 x.f1]:=by
  obtain⟨_,_,rfl,rfl,rfl⟩:=h
  exact rfl
def rd_T163 (xs:List S163)(i:Int):S163:=xs.getD i.toNat z163
theorem at_T163 {w:World}{A:Option Addr}{n:Nat}{xs:List S163}(h:Kd.C k163 w A n xs)(i:Int)(h0:0≤i)(h1:i<n):∃ad,A=some ad∧w.cell? (ad.add (i.toNat * 2))=some (.int .i64 (rd_T163 xs i).f0)∧w.cell? ⟨(ad.add (i.toNat * 2)).block,(ad.add (i.toNat * 2)).off+1,none⟩=some (.int .i64 (rd_T163 xs i).f1):=by
  obtain⟨ad,c,e,_,hK,hc0⟩:=Kd.C_get h z163 i h0 h1
  have hc:∀j u,c[j]?=some u→w.cell? (ad.add (i.toNat * 2+j))=some u:=hc0
  obtain rfl:=k163_open hK
  exact⟨ad,e,hc 0 _ rfl,by rw [←add_field _ _ 1 (by omega)];exact hc 1 _ rfl⟩
structure S69 where
  f0:ByteArray
  f1:Int
  f2:Int
  f3:Int
  f4:Int
  f5:(List S163)
  f6:ByteArray
def z69:S69:=⟨(⟨#[]⟩:ByteArray),(0:Int),(0:Int),(0:Int),(0:Int),([]:List S163),(⟨#[]⟩:ByteArray)⟩
def k69:Kd S69:=Kd.iso (Kd.pair Kd.string (Kd.pair (Kd.int .i64) (Kd.pair (Kd.int .i64) (Kd.pair (Kd.int .i64) (Kd.pair (Kd.int .i64) (Kd.pair (Kd.slice 163 k163) Kd.string)))))) (fun x:S69=>(x.f0,x.f1,x.f2,x.f3,x.f4,x.f5,x.f6))
theorem k69_open {w:World}{x:S69}{cs:List Value}(h:k69.K w x cs):∃A5 c5,cs=[.string x.f0,.int .i64 x.f1,.int .i64 x.f2,.int .i64 x.f3,.int .i64 x.f4,.slice A5 x.f5.length c5,.string x.f6]∧x.f5.length≤c5∧k163.C w A5 x.f5.length x.f5:=by
  obtain⟨_,_,rfl,rfl,⟨_,_,rfl,rfl,⟨_,_,rfl,rfl,⟨_,_,rfl,rfl,⟨_,_,rfl,rfl,⟨_,_,rfl,⟨A5,c5,rfl,l5,g5⟩,rfl⟩⟩⟩⟩⟩⟩:=h
  exact⟨A5,c5,rfl,l5,g5⟩
def rd_T69 (xs:List S69)(i:Int):S69:=xs.getD i.toNat z69
theorem at_T69 {w:World}{A:Option Addr}{n:Nat}{xs:List S69}(h:Kd.C k69 w A n xs)(i:Int)(h0:0≤i)(h1:i<n):∃ad A5 c5,A=some ad∧w.cell? (ad.add (i.toNat * 7))=some (.string (rd_T69 xs i).f0)∧w.cell? ⟨(ad.add (i.toNat * 7)).block,(ad.add (i.toNat * 7)).off+1,none⟩=some (.int .i64 (rd_T69 xs i).f1)∧w.cell? ⟨(ad.add (i.toNat * 7)).block,(ad.add (i.toNat * 7)).off+2,none⟩=some (.int .i64 (rd_T69 xs i).f2)∧w.cell? ⟨(ad.add (i.toNat * 7)).block,(ad.add (i.toNat * 7)).off+3,none⟩=some (.int .i64 (rd_T69 xs i).f3)∧w.cell? ⟨(ad.add (i.toNat * 7)).block,(ad.add (i.toNat * 7)).off+4,none⟩=some (.int .i64 (rd_T69 xs i).f4)∧w.cell? ⟨(ad.add (i.toNat * 7)).block,(ad.add (i.toNat * 7)).off+5,none⟩=some (.slice A5 (rd_T69 xs i).f5.length c5)∧w.cell? ⟨(ad.add (i.toNat * 7)).block,(ad.add (i.toNat * 7)).off+6,none⟩=some (.string (rd_T69 xs i).f6)∧(rd_T69 xs i).f5.length≤c5∧k163.C w A5 (rd_T69 xs i).f5.length (rd_T69 xs i).f5:=by
  obtain⟨ad,c,e,_,hK,hc0⟩:=Kd.C_get h z69 i h0 h1
  have hc:∀j u,c[j]?=some u→w.cell? (ad.add (i.toNat * 7+j))=some u:=hc0
  obtain⟨A5,c5,rfl,l5,g5⟩:=k69_open hK
  exact⟨ad,A5,c5,e,hc 0 _ rfl,by rw [←add_field _ _ 1 (by omega)];exact hc 1 _ rfl,by rw [←add_field _ _ 2 (by omega)];exact hc 2 _ rfl,by rw [←add_field _ _ 3 (by omega)];exact hc 3 _ rfl,by rw [←add_field _ _ 4 (by omega)];exact hc 4 _ rfl,by rw [←add_field _ _ 5 (by omega)];exact hc 5 _ rfl,by rw [←add_field _ _ 6 (by omega)];exact hc 6 _ rfl,l5,g5⟩
structure S57 where
  f0:ByteArray
  f1:ByteArray
def z57:S57:=⟨(⟨#[]⟩:ByteArray),(⟨#[]⟩:ByteArray)⟩
def k57:Kd S57:=Kd.iso (Kd.pair Kd.string Kd.string) (fun x:S57=>(x.f0,x.f1))
theorem k57_open {w:World}{x:S57}{cs:List Value}(h:k57.K w x cs):cs=[.string x.f0,.string x.f1]:=by
  obtain⟨_,_,rfl,rfl,rfl⟩:=h
  exact rfl
def rd_T57 (xs:List S57)(i:Int):S57:=xs.getD i.toNat z57
theorem at_T57 {w:World}{A:Option Addr}{n:Nat}{xs:List S57}(h:Kd.C k57 w A n xs)(i:Int)(h0:0≤i)(h1:i<n):∃ad,A=some ad∧w.cell? (ad.add (i.toNat * 2))=some (.string (rd_T57 xs i).f0)∧w.cell? ⟨(ad.add (i.toNat * 2)).block,(ad.add (i.toNat * 2)).off+1,none⟩=some (.string (rd_T57 xs i).f1):=by
  obtain⟨ad,c,e,_,hK,hc0⟩:=Kd.C_get h z57 i h0 h1
  have hc:∀j u,c[j]?=some u→w.cell? (ad.add (i.toNat * 2+j))=some u:=hc0
  obtain rfl:=k57_open hK
  exact⟨ad,e,hc 0 _ rfl,by rw [←add_field _ _ 1 (by omega)];exact hc 1 _ rfl⟩
structure S39 where
  f0:(List S41)
  f1:(List S69)
  f2:(List S57)
structure S59 where
  f0:Int
  f1:(List S41)
def z59:S59:=⟨(0:Int),([]:List S41)⟩
def k59:Kd S59:=Kd.iso (Kd.pair (Kd.int .i64) (Kd.slice 41 k41)) (fun x:S59=>(x.f0,x.f1))
theorem k59_open {w:World}{x:S59}{cs:List Value}(h:k59.K w x cs):∃A1 c1,cs=[.int .i64 x.f0,.slice A1 x.f1.length c1]∧x.f1.length≤c1∧k41.C w A1 x.f1.length x.f1:=by
  obtain⟨_,_,rfl,rfl,⟨A1,c1,rfl,l1,g1⟩⟩:=h
  exact⟨A1,c1,rfl,l1,g1⟩
def rd_T59 (xs:List S59)(i:Int):S59:=xs.getD i.toNat z59
theorem at_T59 {w:World}{A:Option Addr}{n:Nat}{xs:List S59}(h:Kd.C k59 w A n xs)(i:Int)(h0:0≤i)(h1:i<n):∃ad A1 c1,A=some ad∧w.cell? (ad.add (i.toNat * 2))=some (.int .i64 (rd_T59 xs i).f0)∧w.cell? ⟨(ad.add (i.toNat * 2)).block,(ad.add (i.toNat * 2)).off+1,none⟩=some (.slice A1 (rd_T59 xs i).f1.length c1)∧(rd_T59 xs i).f1.length≤c1∧k41.C w A1 (rd_T59 xs i).f1.length (rd_T59 xs i).f1:=by
  obtain⟨ad,c,e,_,hK,hc0⟩:=Kd.C_get h z59 i h0 h1
  have hc:∀j u,c[j]?=some u→w.cell? (ad.add (i.toNat * 2+j))=some u:=hc0
  obtain⟨A1,c1,rfl,l1,g1⟩:=k59_open hK
  exact⟨ad,A1,c1,e,hc 0 _ rfl,by rw [←add_field _ _ 1 (by omega)];exact hc 1 _ rfl,l1,g1⟩
structure S82 where
  f0:S39
  f1:S41
  f2:Int
  f3:(List S59)
structure S91 where
  f0:S39
  f1:S41
  f2:Int
  f3:(List S59)
theorem km41:Up k41:=up_iso _ (up_pair up_int (up_pair up_string (up_pair up_string (up_pair up_int (up_pair up_int (up_pair up_string (up_pair up_bool (up_pair up_int (up_pair up_int (up_pair (up_slice 3 up_int) (up_pair (up_slice 9 up_string) (up_pair (up_slice 9 up_string) up_string))))))))))))
def q41:Zd S41:=Zd.iso (Zd.pair (Zd.int .i64) (Zd.pair Zd.string (Zd.pair Zd.string (Zd.pair (Zd.int .i64) (Zd.pair (Zd.int .i64) (Zd.pair Zd.string (Zd.pair Zd.bool (Zd.pair (Zd.int .i64) (Zd.pair (Zd.int .i64) (Zd.pair (Zd.slice 3 (Zd.int .i64)) (Zd.pair (Zd.slice 9 Zd.string) (Zd.pair (Zd.slice 9 Zd.string) Zd.string)))))))))))) (fun x:S41=>(x.f0,x.f1,x.f2,x.f3,x.f4,x.f5,x.f6,x.f7,x.f8,x.f9,x.f10,x.f11,x.f12))
def G153 (d:Zd S153):Zd S153:=Zd.iso (Zd.pair (Zd.int .i64) (Zd.pair Zd.string (Zd.slice 153 d))) (fun x:S153=>(x.f0,x.f1,x.f2))
theorem g153:ZF G153:=ZF.iso _ (ZF.pair (ZF.const _) (ZF.pair (ZF.const _) (ZF.slice 153 ZF.id)))
theorem fold153 {w:World}{x:S153}{cs:List Value}(h:(F153 k153).K w x cs):k153.K w x cs:=by
  obtain⟨_,_,rfl,rfl,_,_,rfl,rfl,⟨A2,c2,rfl,l2,h2⟩⟩:=h
  exact k153_mk w x l2 h2
def q153:Zd S153:=Zd.fix k153 G153 (fun d hd w x cs h=>fold153 (by rw [←hd];exact h))
theorem q153_fold {w:World}{S:FP}{x:S153}{cs:List Value}(h:(G153 q153).M w S x cs):q153.M w S x cs:=Zd.fix_fold _ _ _ g153 h
theorem km163:Up k163:=up_iso _ (up_pair up_int up_int)
def q163:Zd S163:=Zd.iso (Zd.pair (Zd.int .i64) (Zd.int .i64)) (fun x:S163=>(x.f0,x.f1))
theorem km69:Up k69:=up_iso _ (up_pair up_string (up_pair up_int (up_pair up_int (up_pair up_int (up_pair up_int (up_pair (up_slice 163 km163) up_string))))))
def q69:Zd S69:=Zd.iso (Zd.pair Zd.string (Zd.pair (Zd.int .i64) (Zd.pair (Zd.int .i64) (Zd.pair (Zd.int .i64) (Zd.pair (Zd.int .i64) (Zd.pair (Zd.slice 163 q163) Zd.string)))))) (fun x:S69=>(x.f0,x.f1,x.f2,x.f3,x.f4,x.f5,x.f6))
theorem km57:Up k57:=up_iso _ (up_pair up_string up_string)
def q57:Zd S57:=Zd.iso (Zd.pair Zd.string Zd.string) (fun x:S57=>(x.f0,x.f1))
def q59:Zd S59:=Zd.iso (Zd.pair (Zd.int .i64) (Zd.slice 41 q41)) (fun x:S59=>(x.f0,x.f1))
theorem rd_T41_get {xs:List S41}{i:Int}(hl:i.toNat<xs.length):xs[i.toNat]=rd_T41 xs i:=by unfold rd_T41;simp [List.getD_eq_getElem?_getD,hl]
theorem rd_T57_get {xs:List S57}{i:Int}(hl:i.toNat<xs.length):xs[i.toNat]=rd_T57 xs i:=by unfold rd_T57;simp [List.getD_eq_getElem?_getD,hl]
theorem rd_T59_get {xs:List S59}{i:Int}(hl:i.toNat<xs.length):xs[i.toNat]=rd_T59 xs i:=by unfold rd_T59;simp [List.getD_eq_getElem?_getD,hl]
theorem rd_T69_get {xs:List S69}{i:Int}(hl:i.toNat<xs.length):xs[i.toNat]=rd_T69 xs i:=by unfold rd_T69;simp [List.getD_eq_getElem?_getD,hl]
theorem rd_T163_get {xs:List S163}{i:Int}(hl:i.toNat<xs.length):xs[i.toNat]=rd_T163 xs i:=by unfold rd_T163;simp [List.getD_eq_getElem?_getD,hl]
theorem info3:(Tryz.prog.info? 3).map (fun i=>(i.zero,i.size,i.bytes))=some (some (.int .i64 0),1,8):=by kernel_rfl
theorem info5:(Tryz.prog.info? 5).map (fun i=>(i.zero,i.size,i.bytes))=some (some (.int .u8 0),1,1):=by kernel_rfl
theorem info9:(Tryz.prog.info? 9).map (fun i=>(i.zero,i.size,i.bytes))=some (some (.string ⟨#[]⟩),1,16):=by kernel_rfl
theorem info41:(Tryz.prog.info? 41).map (fun i=>(i.zero,i.size,i.bytes))=some (some (.agg #[.int .i64 0,.string ⟨#[]⟩,.string ⟨#[]⟩,.int .i64 0,.int .i64 0,.string ⟨#[]⟩,.bool false,.int .i64 0,.int .i64 0,.slice none 0 0,.slice none 0 0,.slice none 0 0,.string ⟨#[]⟩]),13,184):=by kernel_rfl
theorem info57:(Tryz.prog.info? 57).map (fun i=>(i.zero,i.size,i.bytes))=some (some (.agg #[.string ⟨#[]⟩,.string ⟨#[]⟩]),2,32):=by kernel_rfl
theorem info59:(Tryz.prog.info? 59).map (fun i=>(i.zero,i.size,i.bytes))=some (some (.agg #[.int .i64 0,.slice none 0 0]),2,32):=by kernel_rfl
theorem info69:(Tryz.prog.info? 69).map (fun i=>(i.zero,i.size,i.bytes))=some (some (.agg #[.string ⟨#[]⟩,.int .i64 0,.int .i64 0,.int .i64 0,.int .i64 0,.slice none 0 0,.string ⟨#[]⟩]),7,88):=by kernel_rfl
theorem info153:(Tryz.prog.info? 153).map (fun i=>(i.zero,i.size,i.bytes))=some (some (.agg #[.int .i64 0,.string ⟨#[]⟩,.slice none 0 0]),3,48):=by kernel_rfl
theorem info163:(Tryz.prog.info? 163).map (fun i=>(i.zero,i.size,i.bytes))=some (some (.agg #[.int .i64 0,.int .i64 0]),2,16):=by kernel_rfl
def u41_0_3 (x:S41)(y:Int):S41:={ x with f0:=y }
theorem lens41_0_3:Lens q41 (Zd.int .i64) 0 (fun x=>x.f0) u41_0_3:=(Lens.iso (Lens.left (Lens.refl (Zd.int .i64))) _ (fun x:S41=>x.f0) (fun(x:S41) y=>{ x with f0:=y }) (fun _=>rfl) (fun _ _=>rfl))
def u41_1_9 (x:S41)(y:ByteArray):S41:={ x with f1:=y }
theorem lens41_1_9:Lens q41 Zd.string 1 (fun x=>x.f1) u41_1_9:=(Lens.iso (Lens.right (a:=(Zd.int .i64)) (Lens.left (Lens.refl Zd.string))) _ (fun x:S41=>x.f1) (fun(x:S41) y=>{ x with f1:=y }) (fun _=>rfl) (fun _ _=>rfl))
def u41_2_9 (x:S41)(y:ByteArray):S41:={ x with f2:=y }
theorem lens41_2_9:Lens q41 Zd.string 2 (fun x=>x.f2) u41_2_9:=(Lens.iso (Lens.right (a:=(Zd.int .i64)) (Lens.right (a:=Zd.string) (Lens.left (Lens.refl Zd.string)))) _ (fun x:S41=>x.f2) (fun(x:S41) y=>{ x with f2:=y }) (fun _=>rfl) (fun _ _=>rfl))
def u41_3_3 (x:S41)(y:Int):S41:={ x with f3:=y }
theorem lens41_3_3:Lens q41 (Zd.int .i64) 3 (fun x=>x.f3) u41_3_3:=(Lens.iso (Lens.right (a:=(Zd.int .i64)) (Lens.right (a:=Zd.string) (Lens.right (a:=Zd.string) (Lens.left (Lens.refl (Zd.int .i64)))))) _ (fun x:S41=>x.f3) (fun(x:S41) y=>{ x with f3:=y }) (fun _=>rfl) (fun _ _=>rfl))
def u41_4_3 (x:S41)(y:Int):S41:={ x with f4:=y }
theorem lens41_4_3:Lens q41 (Zd.int .i64) 4 (fun x=>x.f4) u41_4_3:=(Lens.iso (Lens.right (a:=(Zd.int .i64)) (Lens.right (a:=Zd.string) (Lens.right (a:=Zd.string) (Lens.right (a:=(Zd.int .i64)) (Lens.left (Lens.refl (Zd.int .i64))))))) _ (fun x:S41=>x.f4) (fun(x:S41) y=>{ x with f4:=y }) (fun _=>rfl) (fun _ _=>rfl))
def u41_5_9 (x:S41)(y:ByteArray):S41:={ x with f5:=y }
theorem lens41_5_9:Lens q41 Zd.string 5 (fun x=>x.f5) u41_5_9:=(Lens.iso (Lens.right (a:=(Zd.int .i64)) (Lens.right (a:=Zd.string) (Lens.right (a:=Zd.string) (Lens.right (a:=(Zd.int .i64)) (Lens.right (a:=(Zd.int .i64)) (Lens.left (Lens.refl Zd.string))))))) _ (fun x:S41=>x.f5) (fun(x:S41) y=>{ x with f5:=y }) (fun _=>rfl) (fun _ _=>rfl))
def u41_6_4 (x:S41)(y:Bool):S41:={ x with f6:=y }
theorem lens41_6_4:Lens q41 Zd.bool 6 (fun x=>x.f6) u41_6_4:=(Lens.iso (Lens.right (a:=(Zd.int .i64)) (Lens.right (a:=Zd.string) (Lens.right (a:=Zd.string) (Lens.right (a:=(Zd.int .i64)) (Lens.right (a:=(Zd.int .i64)) (Lens.right (a:=Zd.string) (Lens.left (Lens.refl Zd.bool)))))))) _ (fun x:S41=>x.f6) (fun(x:S41) y=>{ x with f6:=y }) (fun _=>rfl) (fun _ _=>rfl))
def u41_7_3 (x:S41)(y:Int):S41:={ x with f7:=y }
theorem lens41_7_3:Lens q41 (Zd.int .i64) 7 (fun x=>x.f7) u41_7_3:=(Lens.iso (Lens.right (a:=(Zd.int .i64)) (Lens.right (a:=Zd.string) (Lens.right (a:=Zd.string) (Lens.right (a:=(Zd.int .i64)) (Lens.right (a:=(Zd.int .i64)) (Lens.right (a:=Zd.string) (Lens.right (a:=Zd.bool) (Lens.left (Lens.refl (Zd.int .i64)))))))))) _ (fun x:S41=>x.f7) (fun(x:S41) y=>{ x with f7:=y }) (fun _=>rfl) (fun _ _=>rfl))
def u41_8_3 (x:S41)(y:Int):S41:={ x with f8:=y }
theorem lens41_8_3:Lens q41 (Zd.int .i64) 8 (fun x=>x.f8) u41_8_3:=(Lens.iso (Lens.right (a:=(Zd.int .i64)) (Lens.right (a:=Zd.string) (Lens.right (a:=Zd.string) (Lens.right (a:=(Zd.int .i64)) (Lens.right (a:=(Zd.int .i64)) (Lens.right (a:=Zd.string) (Lens.right (a:=Zd.bool) (Lens.right (a:=(Zd.int .i64)) (Lens.left (Lens.refl (Zd.int .i64))))))))))) _ (fun x:S41=>x.f8) (fun(x:S41) y=>{ x with f8:=y }) (fun _=>rfl) (fun _ _=>rfl))
def u41_9_27 (x:S41)(y:(List Int)):S41:={ x with f9:=y }
theorem lens41_9_27:Lens q41 (Zd.slice 3 (Zd.int .i64)) 9 (fun x=>x.f9) u41_9_27:=(Lens.iso (Lens.right (a:=(Zd.int .i64)) (Lens.right (a:=Zd.string) (Lens.right (a:=Zd.string) (Lens.right (a:=(Zd.int .i64)) (Lens.right (a:=(Zd.int .i64)) (Lens.right (a:=Zd.string) (Lens.right (a:=Zd.bool) (Lens.right (a:=(Zd.int .i64)) (Lens.right (a:=(Zd.int .i64)) (Lens.left (Lens.refl (Zd.slice 3 (Zd.int .i64))))))))))))) _ (fun x:S41=>x.f9) (fun(x:S41) y=>{ x with f9:=y }) (fun _=>rfl) (fun _ _=>rfl))
def u41_10_28 (x:S41)(y:(List ByteArray)):S41:={ x with f10:=y }
theorem lens41_10_28:Lens q41 (Zd.slice 9 Zd.string) 10 (fun x=>x.f10) u41_10_28:=(Lens.iso (Lens.right (a:=(Zd.int .i64)) (Lens.right (a:=Zd.string) (Lens.right (a:=Zd.string) (Lens.right (a:=(Zd.int .i64)) (Lens.right (a:=(Zd.int .i64)) (Lens.right (a:=Zd.string) (Lens.right (a:=Zd.bool) (Lens.right (a:=(Zd.int .i64)) (Lens.right (a:=(Zd.int .i64)) (Lens.right (a:=(Zd.slice 3 (Zd.int .i64))) (Lens.left (Lens.refl (Zd.slice 9 Zd.string))))))))))))) _ (fun x:S41=>x.f10) (fun(x:S41) y=>{ x with f10:=y }) (fun _=>rfl) (fun _ _=>rfl))
def u41_11_28 (x:S41)(y:(List ByteArray)):S41:={ x with f11:=y }
theorem lens41_11_28:Lens q41 (Zd.slice 9 Zd.string) 11 (fun x=>x.f11) u41_11_28:=(Lens.iso (Lens.right (a:=(Zd.int .i64)) (Lens.right (a:=Zd.string) (Lens.right (a:=Zd.string) (Lens.right (a:=(Zd.int .i64)) (Lens.right (a:=(Zd.int .i64)) (Lens.right (a:=Zd.string) (Lens.right (a:=Zd.bool) (Lens.right (a:=(Zd.int .i64)) (Lens.right (a:=(Zd.int .i64)) (Lens.right (a:=(Zd.slice 3 (Zd.int .i64))) (Lens.right (a:=(Zd.slice 9 Zd.string)) (Lens.left (Lens.refl (Zd.slice 9 Zd.string)))))))))))))) _ (fun x:S41=>x.f11) (fun(x:S41) y=>{ x with f11:=y }) (fun _=>rfl) (fun _ _=>rfl))
def u41_12_9 (x:S41)(y:ByteArray):S41:={ x with f12:=y }
theorem lens41_12_9:Lens q41 Zd.string 12 (fun x=>x.f12) u41_12_9:=(Lens.iso (Lens.right (a:=(Zd.int .i64)) (Lens.right (a:=Zd.string) (Lens.right (a:=Zd.string) (Lens.right (a:=(Zd.int .i64)) (Lens.right (a:=(Zd.int .i64)) (Lens.right (a:=Zd.string) (Lens.right (a:=Zd.bool) (Lens.right (a:=(Zd.int .i64)) (Lens.right (a:=(Zd.int .i64)) (Lens.right (a:=(Zd.slice 3 (Zd.int .i64))) (Lens.right (a:=(Zd.slice 9 Zd.string)) (Lens.right (a:=(Zd.slice 9 Zd.string)) (Lens.refl Zd.string))))))))))))) _ (fun x:S41=>x.f12) (fun(x:S41) y=>{ x with f12:=y }) (fun _=>rfl) (fun _ _=>rfl))
def u163_0_3 (x:S163)(y:Int):S163:={ x with f0:=y }
theorem lens163_0_3:Lens q163 (Zd.int .i64) 0 (fun x=>x.f0) u163_0_3:=(Lens.iso (Lens.left (Lens.refl (Zd.int .i64))) _ (fun x:S163=>x.f0) (fun(x:S163) y=>{ x with f0:=y }) (fun _=>rfl) (fun _ _=>rfl))
def u163_1_3 (x:S163)(y:Int):S163:={ x with f1:=y }
theorem lens163_1_3:Lens q163 (Zd.int .i64) 1 (fun x=>x.f1) u163_1_3:=(Lens.iso (Lens.right (a:=(Zd.int .i64)) (Lens.refl (Zd.int .i64))) _ (fun x:S163=>x.f1) (fun(x:S163) y=>{ x with f1:=y }) (fun _=>rfl) (fun _ _=>rfl))
def u69_0_9 (x:S69)(y:ByteArray):S69:={ x with f0:=y }
theorem lens69_0_9:Lens q69 Zd.string 0 (fun x=>x.f0) u69_0_9:=(Lens.iso (Lens.left (Lens.refl Zd.string)) _ (fun x:S69=>x.f0) (fun(x:S69) y=>{ x with f0:=y }) (fun _=>rfl) (fun _ _=>rfl))
def u69_1_3 (x:S69)(y:Int):S69:={ x with f1:=y }
theorem lens69_1_3:Lens q69 (Zd.int .i64) 1 (fun x=>x.f1) u69_1_3:=(Lens.iso (Lens.right (a:=Zd.string) (Lens.left (Lens.refl (Zd.int .i64)))) _ (fun x:S69=>x.f1) (fun(x:S69) y=>{ x with f1:=y }) (fun _=>rfl) (fun _ _=>rfl))
def u69_2_3 (x:S69)(y:Int):S69:={ x with f2:=y }
theorem lens69_2_3:Lens q69 (Zd.int .i64) 2 (fun x=>x.f2) u69_2_3:=(Lens.iso (Lens.right (a:=Zd.string) (Lens.right (a:=(Zd.int .i64)) (Lens.left (Lens.refl (Zd.int .i64))))) _ (fun x:S69=>x.f2) (fun(x:S69) y=>{ x with f2:=y }) (fun _=>rfl) (fun _ _=>rfl))
def u69_3_3 (x:S69)(y:Int):S69:={ x with f3:=y }
theorem lens69_3_3:Lens q69 (Zd.int .i64) 3 (fun x=>x.f3) u69_3_3:=(Lens.iso (Lens.right (a:=Zd.string) (Lens.right (a:=(Zd.int .i64)) (Lens.right (a:=(Zd.int .i64)) (Lens.left (Lens.refl (Zd.int .i64)))))) _ (fun x:S69=>x.f3) (fun(x:S69) y=>{ x with f3:=y }) (fun _=>rfl) (fun _ _=>rfl))
def u69_4_3 (x:S69)(y:Int):S69:={ x with f4:=y }
theorem lens69_4_3:Lens q69 (Zd.int .i64) 4 (fun x=>x.f4) u69_4_3:=(Lens.iso (Lens.right (a:=Zd.string) (Lens.right (a:=(Zd.int .i64)) (Lens.right (a:=(Zd.int .i64)) (Lens.right (a:=(Zd.int .i64)) (Lens.left (Lens.refl (Zd.int .i64))))))) _ (fun x:S69=>x.f4) (fun(x:S69) y=>{ x with f4:=y }) (fun _=>rfl) (fun _ _=>rfl))
def u69_5_67 (x:S69)(y:(List S163)):S69:={ x with f5:=y }
theorem lens69_5_67:Lens q69 (Zd.slice 163 q163) 5 (fun x=>x.f5) u69_5_67:=(Lens.iso (Lens.right (a:=Zd.string) (Lens.right (a:=(Zd.int .i64)) (Lens.right (a:=(Zd.int .i64)) (Lens.right (a:=(Zd.int .i64)) (Lens.right (a:=(Zd.int .i64)) (Lens.left (Lens.refl (Zd.slice 163 q163)))))))) _ (fun x:S69=>x.f5) (fun(x:S69) y=>{ x with f5:=y }) (fun _=>rfl) (fun _ _=>rfl))
def u69_6_9 (x:S69)(y:ByteArray):S69:={ x with f6:=y }
theorem lens69_6_9:Lens q69 Zd.string 6 (fun x=>x.f6) u69_6_9:=(Lens.iso (Lens.right (a:=Zd.string) (Lens.right (a:=(Zd.int .i64)) (Lens.right (a:=(Zd.int .i64)) (Lens.right (a:=(Zd.int .i64)) (Lens.right (a:=(Zd.int .i64)) (Lens.right (a:=(Zd.slice 163 q163)) (Lens.refl Zd.string))))))) _ (fun x:S69=>x.f6) (fun(x:S69) y=>{ x with f6:=y }) (fun _=>rfl) (fun _ _=>rfl))
def u57_0_9 (x:S57)(y:ByteArray):S57:={ x with f0:=y }
theorem lens57_0_9:Lens q57 Zd.string 0 (fun x=>x.f0) u57_0_9:=(Lens.iso (Lens.left (Lens.refl Zd.string)) _ (fun x:S57=>x.f0) (fun(x:S57) y=>{ x with f0:=y }) (fun _=>rfl) (fun _ _=>rfl))
def u57_1_9 (x:S57)(y:ByteArray):S57:={ x with f1:=y }
theorem lens57_1_9:Lens q57 Zd.string 1 (fun x=>x.f1) u57_1_9:=(Lens.iso (Lens.right (a:=Zd.string) (Lens.refl Zd.string)) _ (fun x:S57=>x.f1) (fun(x:S57) y=>{ x with f1:=y }) (fun _=>rfl) (fun _ _=>rfl))
def u59_0_3 (x:S59)(y:Int):S59:={ x with f0:=y }
theorem lens59_0_3:Lens q59 (Zd.int .i64) 0 (fun x=>x.f0) u59_0_3:=(Lens.iso (Lens.left (Lens.refl (Zd.int .i64))) _ (fun x:S59=>x.f0) (fun(x:S59) y=>{ x with f0:=y }) (fun _=>rfl) (fun _ _=>rfl))
def u59_1_35 (x:S59)(y:(List S41)):S59:={ x with f1:=y }
theorem lens59_1_35:Lens q59 (Zd.slice 41 q41) 1 (fun x=>x.f1) u59_1_35:=(Lens.iso (Lens.right (a:=(Zd.int .i64)) (Lens.refl (Zd.slice 41 q41))) _ (fun x:S59=>x.f1) (fun(x:S59) y=>{ x with f1:=y }) (fun _=>rfl) (fun _ _=>rfl))
theorem q41_zero (w:World)(S:FP):q41.M w S z41 [.int .i64 0,.string (⟨#[]⟩:ByteArray),.string (⟨#[]⟩:ByteArray),.int .i64 0,.int .i64 0,.string (⟨#[]⟩:ByteArray),.bool false,.int .i64 0,.int .i64 0,.slice none 0 0,.slice none 0 0,.slice none 0 0,.string (⟨#[]⟩:ByteArray)]:=made_none (a:=q41) ((pair_app (a:=(Zd.int .i64)) (b:=(Zd.pair Zd.string (Zd.pair Zd.string (Zd.pair (Zd.int .i64) (Zd.pair (Zd.int .i64) (Zd.pair Zd.string (Zd.pair Zd.bool (Zd.pair (Zd.int .i64) (Zd.pair (Zd.int .i64) (Zd.pair (Zd.slice 3 (Zd.int .i64)) (Zd.pair (Zd.slice 9 Zd.string) (Zd.pair (Zd.slice 9 Zd.string) Zd.string)))))))))))) (w:=w) (S:=(fun(_:Nat) (_:Nat)=>False)) (js1:=[]) (js2:=[]) (x:=z41.f0) (y:=(z41.f1,(z41.f2,(z41.f3,(z41.f4,(z41.f5,(z41.f6,(z41.f7,(z41.f8,(z41.f9,(z41.f10,(z41.f11,z41.f12)))))))))))) (c0:=[.int .i64 0]) (c1:=[.string (⟨#[]⟩:ByteArray),.string (⟨#[]⟩:ByteArray),.int .i64 0,.int .i64 0,.string (⟨#[]⟩:ByteArray),.bool false,.int .i64 0,.int .i64 0,.slice none 0 0,.slice none 0 0,.slice none 0 0,.string (⟨#[]⟩:ByteArray)]) hd_none rfl (pair_app (a:=Zd.string) (b:=(Zd.pair Zd.string (Zd.pair (Zd.int .i64) (Zd.pair (Zd.int .i64) (Zd.pair Zd.string (Zd.pair Zd.bool (Zd.pair (Zd.int .i64) (Zd.pair (Zd.int .i64) (Zd.pair (Zd.slice 3 (Zd.int .i64)) (Zd.pair (Zd.slice 9 Zd.string) (Zd.pair (Zd.slice 9 Zd.string) Zd.string))))))))))) (w:=w) (S:=(fun(_:Nat) (_:Nat)=>False)) (js1:=[]) (js2:=[]) (x:=z41.f1) (y:=(z41.f2,(z41.f3,(z41.f4,(z41.f5,(z41.f6,(z41.f7,(z41.f8,(z41.f9,(z41.f10,(z41.f11,z41.f12))))))))))) (c0:=[.string (⟨#[]⟩:ByteArray)]) (c1:=[.string (⟨#[]⟩:ByteArray),.int .i64 0,.int .i64 0,.string (⟨#[]⟩:ByteArray),.bool false,.int .i64 0,.int .i64 0,.slice none 0 0,.slice none 0 0,.slice none 0 0,.string (⟨#[]⟩:ByteArray)]) hd_none rfl (pair_app (a:=Zd.string) (b:=(Zd.pair (Zd.int .i64) (Zd.pair (Zd.int .i64) (Zd.pair Zd.string (Zd.pair Zd.bool (Zd.pair (Zd.int .i64) (Zd.pair (Zd.int .i64) (Zd.pair (Zd.slice 3 (Zd.int .i64)) (Zd.pair (Zd.slice 9 Zd.string) (Zd.pair (Zd.slice 9 Zd.string) Zd.string)))))))))) (w:=w) (S:=(fun(_:Nat) (_:Nat)=>False)) (js1:=[]) (js2:=[]) (x:=z41.f2) (y:=(z41.f3,(z41.f4,(z41.f5,(z41.f6,(z41.f7,(z41.f8,(z41.f9,(z41.f10,(z41.f11,z41.f12)))))))))) (c0:=[.string (⟨#[]⟩:ByteArray)]) (c1:=[.int .i64 0,.int .i64 0,.string (⟨#[]⟩:ByteArray),.bool false,.int .i64 0,.int .i64 0,.slice none 0 0,.slice none 0 0,.slice none 0 0,.string (⟨#[]⟩:ByteArray)]) hd_none rfl (pair_app (a:=(Zd.int .i64)) (b:=(Zd.pair (Zd.int .i64) (Zd.pair Zd.string (Zd.pair Zd.bool (Zd.pair (Zd.int .i64) (Zd.pair (Zd.int .i64) (Zd.pair (Zd.slice 3 (Zd.int .i64)) (Zd.pair (Zd.slice 9 Zd.string) (Zd.pair (Zd.slice 9 Zd.string) Zd.string))))))))) (w:=w) (S:=(fun(_:Nat) (_:Nat)=>False)) (js1:=[]) (js2:=[]) (x:=z41.f3) (y:=(z41.f4,(z41.f5,(z41.f6,(z41.f7,(z41.f8,(z41.f9,(z41.f10,(z41.f11,z41.f12))))))))) (c0:=[.int .i64 0]) (c1:=[.int .i64 0,.string (⟨#[]⟩:ByteArray),.bool false,.int .i64 0,.int .i64 0,.slice none 0 0,.slice none 0 0,.slice none 0 0,.string (⟨#[]⟩:ByteArray)]) hd_none rfl (pair_app (a:=(Zd.int .i64)) (b:=(Zd.pair Zd.string (Zd.pair Zd.bool (Zd.pair (Zd.int .i64) (Zd.pair (Zd.int .i64) (Zd.pair (Zd.slice 3 (Zd.int .i64)) (Zd.pair (Zd.slice 9 Zd.string) (Zd.pair (Zd.slice 9 Zd.string) Zd.string)))))))) (w:=w) (S:=(fun(_:Nat) (_:Nat)=>False)) (js1:=[]) (js2:=[]) (x:=z41.f4) (y:=(z41.f5,(z41.f6,(z41.f7,(z41.f8,(z41.f9,(z41.f10,(z41.f11,z41.f12)))))))) (c0:=[.int .i64 0]) (c1:=[.string (⟨#[]⟩:ByteArray),.bool false,.int .i64 0,.int .i64 0,.slice none 0 0,.slice none 0 0,.slice none 0 0,.string (⟨#[]⟩:ByteArray)]) hd_none rfl (pair_app (a:=Zd.string) (b:=(Zd.pair Zd.bool (Zd.pair (Zd.int .i64) (Zd.pair (Zd.int .i64) (Zd.pair (Zd.slice 3 (Zd.int .i64)) (Zd.pair (Zd.slice 9 Zd.string) (Zd.pair (Zd.slice 9 Zd.string) Zd.string))))))) (w:=w) (S:=(fun(_:Nat) (_:Nat)=>False)) (js1:=[]) (js2:=[]) (x:=z41.f5) (y:=(z41.f6,(z41.f7,(z41.f8,(z41.f9,(z41.f10,(z41.f11,z41.f12))))))) (c0:=[.string (⟨#[]⟩:ByteArray)]) (c1:=[.bool false,.int .i64 0,.int .i64 0,.slice none 0 0,.slice none 0 0,.slice none 0 0,.string (⟨#[]⟩:ByteArray)]) hd_none rfl (pair_app (a:=Zd.bool) (b:=(Zd.pair (Zd.int .i64) (Zd.pair (Zd.int .i64) (Zd.pair (Zd.slice 3 (Zd.int .i64)) (Zd.pair (Zd.slice 9 Zd.string) (Zd.pair (Zd.slice 9 Zd.string) Zd.string)))))) (w:=w) (S:=(fun(_:Nat) (_:Nat)=>False)) (js1:=[]) (js2:=[]) (x:=z41.f6) (y:=(z41.f7,(z41.f8,(z41.f9,(z41.f10,(z41.f11,z41.f12)))))) (c0:=[.bool false]) (c1:=[.int .i64 0,.int .i64 0,.slice none 0 0,.slice none 0 0,.slice none 0 0,.string (⟨#[]⟩:ByteArray)]) hd_none rfl (pair_app (a:=(Zd.int .i64)) (b:=(Zd.pair (Zd.int .i64) (Zd.pair (Zd.slice 3 (Zd.int .i64)) (Zd.pair (Zd.slice 9 Zd.string) (Zd.pair (Zd.slice 9 Zd.string) Zd.string))))) (w:=w) (S:=(fun(_:Nat) (_:Nat)=>False)) (js1:=[]) (js2:=[]) (x:=z41.f7) (y:=(z41.f8,(z41.f9,(z41.f10,(z41.f11,z41.f12))))) (c0:=[.int .i64 0]) (c1:=[.int .i64 0,.slice none 0 0,.slice none 0 0,.slice none 0 0,.string (⟨#[]⟩:ByteArray)]) hd_none rfl (pair_app (a:=(Zd.int .i64)) (b:=(Zd.pair (Zd.slice 3 (Zd.int .i64)) (Zd.pair (Zd.slice 9 Zd.string) (Zd.pair (Zd.slice 9 Zd.string) Zd.string)))) (w:=w) (S:=(fun(_:Nat) (_:Nat)=>False)) (js1:=[]) (js2:=[]) (x:=z41.f8) (y:=(z41.f9,(z41.f10,(z41.f11,z41.f12)))) (c0:=[.int .i64 0]) (c1:=[.slice none 0 0,.slice none 0 0,.slice none 0 0,.string (⟨#[]⟩:ByteArray)]) hd_none rfl (pair_app (a:=(Zd.slice 3 (Zd.int .i64))) (b:=(Zd.pair (Zd.slice 9 Zd.string) (Zd.pair (Zd.slice 9 Zd.string) Zd.string))) (w:=w) (S:=(fun(_:Nat) (_:Nat)=>False)) (js1:=[]) (js2:=[]) (x:=z41.f9) (y:=(z41.f10,(z41.f11,z41.f12))) (c0:=[.slice none 0 0]) (c1:=[.slice none 0 0,.slice none 0 0,.string (⟨#[]⟩:ByteArray)]) hd_none row_none (pair_app (a:=(Zd.slice 9 Zd.string)) (b:=(Zd.pair (Zd.slice 9 Zd.string) Zd.string)) (w:=w) (S:=(fun(_:Nat) (_:Nat)=>False)) (js1:=[]) (js2:=[]) (x:=z41.f10) (y:=(z41.f11,z41.f12)) (c0:=[.slice none 0 0]) (c1:=[.slice none 0 0,.string (⟨#[]⟩:ByteArray)]) hd_none row_none (pair_app (a:=(Zd.slice 9 Zd.string)) (b:=Zd.string) (w:=w) (S:=(fun(_:Nat) (_:Nat)=>False)) (js1:=[]) (js2:=[]) (x:=z41.f11) (y:=z41.f12) (c0:=[.slice none 0 0]) (c1:=[.string (⟨#[]⟩:ByteArray)]) hd_none row_none rfl List.nodup_nil) List.nodup_nil) List.nodup_nil) List.nodup_nil) List.nodup_nil) List.nodup_nil) List.nodup_nil) List.nodup_nil) List.nodup_nil) List.nodup_nil) List.nodup_nil) List.nodup_nil))
theorem q41_pack {w:World}{S:Nat→FP}{x:S41}{v0 v1 v2:Value}{j0 j1 j2:Nat}(hd:∀i j k,i≠j→S i k→¬S j k)(h0:(Zd.slice 3 (Zd.int .i64)).M w (S j0) x.f9 [v0])(h1:(Zd.slice 9 Zd.string).M w (S j1) x.f10 [v1])(h2:(Zd.slice 9 Zd.string).M w (S j2) x.f11 [v2])(hn:[j0,j1,j2].Nodup):q41.M w (fun k=>∃i,i∈ [j0,j1,j2]∧S i k) x [.int .i64 x.f0,.string x.f1,.string x.f2,.int .i64 x.f3,.int .i64 x.f4,.string x.f5,.bool x.f6,.int .i64 x.f7,.int .i64 x.f8,v0,v1,v2,.string x.f12]:=((pair_app (a:=(Zd.int .i64)) (b:=(Zd.pair Zd.string (Zd.pair Zd.string (Zd.pair (Zd.int .i64) (Zd.pair (Zd.int .i64) (Zd.pair Zd.string (Zd.pair Zd.bool (Zd.pair (Zd.int .i64) (Zd.pair (Zd.int .i64) (Zd.pair (Zd.slice 3 (Zd.int .i64)) (Zd.pair (Zd.slice 9 Zd.string) (Zd.pair (Zd.slice 9 Zd.string) Zd.string)))))))))))) (w:=w) (S:=S) (js1:=[]) (js2:=[j0,j1,j2]) (x:=x.f0) (y:=(x.f1,(x.f2,(x.f3,(x.f4,(x.f5,(x.f6,(x.f7,(x.f8,(x.f9,(x.f10,(x.f11,x.f12)))))))))))) (c0:=[.int .i64 x.f0]) (c1:=[.string x.f1,.string x.f2,.int .i64 x.f3,.int .i64 x.f4,.string x.f5,.bool x.f6,.int .i64 x.f7,.int .i64 x.f8,v0,v1,v2,.string x.f12]) hd rfl (pair_app (a:=Zd.string) (b:=(Zd.pair Zd.string (Zd.pair (Zd.int .i64) (Zd.pair (Zd.int .i64) (Zd.pair Zd.string (Zd.pair Zd.bool (Zd.pair (Zd.int .i64) (Zd.pair (Zd.int .i64) (Zd.pair (Zd.slice 3 (Zd.int .i64)) (Zd.pair (Zd.slice 9 Zd.string) (Zd.pair (Zd.slice 9 Zd.string) Zd.string))))))))))) (w:=w) (S:=S) (js1:=[]) (js2:=[j0,j1,j2]) (x:=x.f1) (y:=(x.f2,(x.f3,(x.f4,(x.f5,(x.f6,(x.f7,(x.f8,(x.f9,(x.f10,(x.f11,x.f12))))))))))) (c0:=[.string x.f1]) (c1:=[.string x.f2,.int .i64 x.f3,.int .i64 x.f4,.string x.f5,.bool x.f6,.int .i64 x.f7,.int .i64 x.f8,v0,v1,v2,.string x.f12]) hd rfl (pair_app (a:=Zd.string) (b:=(Zd.pair (Zd.int .i64) (Zd.pair (Zd.int .i64) (Zd.pair Zd.string (Zd.pair Zd.bool (Zd.pair (Zd.int .i64) (Zd.pair (Zd.int .i64) (Zd.pair (Zd.slice 3 (Zd.int .i64)) (Zd.pair (Zd.slice 9 Zd.string) (Zd.pair (Zd.slice 9 Zd.string) Zd.string)))))))))) (w:=w) (S:=S) (js1:=[]) (js2:=[j0,j1,j2]) (x:=x.f2) (y:=(x.f3,(x.f4,(x.f5,(x.f6,(x.f7,(x.f8,(x.f9,(x.f10,(x.f11,x.f12)))))))))) (c0:=[.string x.f2]) (c1:=[.int .i64 x.f3,.int .i64 x.f4,.string x.f5,.bool x.f6,.int .i64 x.f7,.int .i64 x.f8,v0,v1,v2,.string x.f12]) hd rfl (pair_app (a:=(Zd.int .i64)) (b:=(Zd.pair (Zd.int .i64) (Zd.pair Zd.string (Zd.pair Zd.bool (Zd.pair (Zd.int .i64) (Zd.pair (Zd.int .i64) (Zd.pair (Zd.slice 3 (Zd.int .i64)) (Zd.pair (Zd.slice 9 Zd.string) (Zd.pair (Zd.slice 9 Zd.string) Zd.string))))))))) (w:=w) (S:=S) (js1:=[]) (js2:=[j0,j1,j2]) (x:=x.f3) (y:=(x.f4,(x.f5,(x.f6,(x.f7,(x.f8,(x.f9,(x.f10,(x.f11,x.f12))))))))) (c0:=[.int .i64 x.f3]) (c1:=[.int .i64 x.f4,.string x.f5,.bool x.f6,.int .i64 x.f7,.int .i64 x.f8,v0,v1,v2,.string x.f12]) hd rfl (pair_app (a:=(Zd.int .i64)) (b:=(Zd.pair Zd.string (Zd.pair Zd.bool (Zd.pair (Zd.int .i64) (Zd.pair (Zd.int .i64) (Zd.pair (Zd.slice 3 (Zd.int .i64)) (Zd.pair (Zd.slice 9 Zd.string) (Zd.pair (Zd.slice 9 Zd.string) Zd.string)))))))) (w:=w) (S:=S) (js1:=[]) (js2:=[j0,j1,j2]) (x:=x.f4) (y:=(x.f5,(x.f6,(x.f7,(x.f8,(x.f9,(x.f10,(x.f11,x.f12)))))))) (c0:=[.int .i64 x.f4]) (c1:=[.string x.f5,.bool x.f6,.int .i64 x.f7,.int .i64 x.f8,v0,v1,v2,.string x.f12]) hd rfl (pair_app (a:=Zd.string) (b:=(Zd.pair Zd.bool (Zd.pair (Zd.int .i64) (Zd.pair (Zd.int .i64) (Zd.pair (Zd.slice 3 (Zd.int .i64)) (Zd.pair (Zd.slice 9 Zd.string) (Zd.pair (Zd.slice 9 Zd.string) Zd.string))))))) (w:=w) (S:=S) (js1:=[]) (js2:=[j0,j1,j2]) (x:=x.f5) (y:=(x.f6,(x.f7,(x.f8,(x.f9,(x.f10,(x.f11,x.f12))))))) (c0:=[.string x.f5]) (c1:=[.bool x.f6,.int .i64 x.f7,.int .i64 x.f8,v0,v1,v2,.string x.f12]) hd rfl (pair_app (a:=Zd.bool) (b:=(Zd.pair (Zd.int .i64) (Zd.pair (Zd.int .i64) (Zd.pair (Zd.slice 3 (Zd.int .i64)) (Zd.pair (Zd.slice 9 Zd.string) (Zd.pair (Zd.slice 9 Zd.string) Zd.string)))))) (w:=w) (S:=S) (js1:=[]) (js2:=[j0,j1,j2]) (x:=x.f6) (y:=(x.f7,(x.f8,(x.f9,(x.f10,(x.f11,x.f12)))))) (c0:=[.bool x.f6]) (c1:=[.int .i64 x.f7,.int .i64 x.f8,v0,v1,v2,.string x.f12]) hd rfl (pair_app (a:=(Zd.int .i64)) (b:=(Zd.pair (Zd.int .i64) (Zd.pair (Zd.slice 3 (Zd.int .i64)) (Zd.pair (Zd.slice 9 Zd.string) (Zd.pair (Zd.slice 9 Zd.string) Zd.string))))) (w:=w) (S:=S) (js1:=[]) (js2:=[j0,j1,j2]) (x:=x.f7) (y:=(x.f8,(x.f9,(x.f10,(x.f11,x.f12))))) (c0:=[.int .i64 x.f7]) (c1:=[.int .i64 x.f8,v0,v1,v2,.string x.f12]) hd rfl (pair_app (a:=(Zd.int .i64)) (b:=(Zd.pair (Zd.slice 3 (Zd.int .i64)) (Zd.pair (Zd.slice 9 Zd.string) (Zd.pair (Zd.slice 9 Zd.string) Zd.string)))) (w:=w) (S:=S) (js1:=[]) (js2:=[j0,j1,j2]) (x:=x.f8) (y:=(x.f9,(x.f10,(x.f11,x.f12)))) (c0:=[.int .i64 x.f8]) (c1:=[v0,v1,v2,.string x.f12]) hd rfl (pair_app (a:=(Zd.slice 3 (Zd.int .i64))) (b:=(Zd.pair (Zd.slice 9 Zd.string) (Zd.pair (Zd.slice 9 Zd.string) Zd.string))) (w:=w) (S:=S) (js1:=[j0]) (js2:=[j1,j2]) (x:=x.f9) (y:=(x.f10,(x.f11,x.f12))) (c0:=[v0]) (c1:=[v1,v2,.string x.f12]) hd (made_one h0) (pair_app (a:=(Zd.slice 9 Zd.string)) (b:=(Zd.pair (Zd.slice 9 Zd.string) Zd.string)) (w:=w) (S:=S) (js1:=[j1]) (js2:=[j2]) (x:=x.f10) (y:=(x.f11,x.f12)) (c0:=[v1]) (c1:=[v2,.string x.f12]) hd (made_one h1) (pair_app (a:=(Zd.slice 9 Zd.string)) (b:=Zd.string) (w:=w) (S:=S) (js1:=[j2]) (js2:=[]) (x:=x.f11) (y:=x.f12) (c0:=[v2]) (c1:=[.string x.f12]) hd (made_one h2) rfl (nod_drop 2 hn)) (nod_drop 1 hn)) hn) hn) hn) hn) hn) hn) hn) hn) hn) hn))
theorem q153_pack {w:World}{S:Nat→FP}{x:S153}{v0:Value}{j0:Nat}(hd:∀i j k,i≠j→S i k→¬S j k)(h0:(Zd.slice 153 q153).M w (S j0) x.f2 [v0])(hn:[j0].Nodup):q153.M w (fun k=>∃i,i∈ [j0]∧S i k) x [.int .i64 x.f0,.string x.f1,v0]:=(q153_fold (pair_app (a:=(Zd.int .i64)) (b:=(Zd.pair Zd.string (Zd.slice 153 q153))) (w:=w) (S:=S) (js1:=[]) (js2:=[j0]) (x:=x.f0) (y:=(x.f1,x.f2)) (c0:=[.int .i64 x.f0]) (c1:=[.string x.f1,v0]) hd rfl (pair_app (a:=Zd.string) (b:=(Zd.slice 153 q153)) (w:=w) (S:=S) (js1:=[]) (js2:=[j0]) (x:=x.f1) (y:=x.f2) (c0:=[.string x.f1]) (c1:=[v0]) hd rfl (made_one h0) hn) hn))
theorem q163_zero (w:World)(S:FP):q163.M w S z163 [.int .i64 0,.int .i64 0]:=made_none (a:=q163) ((pair_app (a:=(Zd.int .i64)) (b:=(Zd.int .i64)) (w:=w) (S:=(fun(_:Nat) (_:Nat)=>False)) (js1:=[]) (js2:=[]) (x:=z163.f0) (y:=z163.f1) (c0:=[.int .i64 0]) (c1:=[.int .i64 0]) hd_none rfl rfl List.nodup_nil))
theorem q163_flat (w:World)(S:FP)(x:S163):q163.M w S x [.int .i64 x.f0,.int .i64 x.f1]:=made_none (a:=q163) ((pair_app (a:=(Zd.int .i64)) (b:=(Zd.int .i64)) (w:=w) (S:=(fun(_:Nat) (_:Nat)=>False)) (js1:=[]) (js2:=[]) (x:=x.f0) (y:=x.f1) (c0:=[.int .i64 x.f0]) (c1:=[.int .i64 x.f1]) hd_none rfl rfl List.nodup_nil))
theorem q69_zero (w:World)(S:FP):q69.M w S z69 [.string (⟨#[]⟩:ByteArray),.int .i64 0,.int .i64 0,.int .i64 0,.int .i64 0,.slice none 0 0,.string (⟨#[]⟩:ByteArray)]:=made_none (a:=q69) ((pair_app (a:=Zd.string) (b:=(Zd.pair (Zd.int .i64) (Zd.pair (Zd.int .i64) (Zd.pair (Zd.int .i64) (Zd.pair (Zd.int .i64) (Zd.pair (Zd.slice 163 q163) Zd.string)))))) (w:=w) (S:=(fun(_:Nat) (_:Nat)=>False)) (js1:=[]) (js2:=[]) (x:=z69.f0) (y:=(z69.f1,(z69.f2,(z69.f3,(z69.f4,(z69.f5,z69.f6)))))) (c0:=[.string (⟨#[]⟩:ByteArray)]) (c1:=[.int .i64 0,.int .i64 0,.int .i64 0,.int .i64 0,.slice none 0 0,.string (⟨#[]⟩:ByteArray)]) hd_none rfl (pair_app (a:=(Zd.int .i64)) (b:=(Zd.pair (Zd.int .i64) (Zd.pair (Zd.int .i64) (Zd.pair (Zd.int .i64) (Zd.pair (Zd.slice 163 q163) Zd.string))))) (w:=w) (S:=(fun(_:Nat) (_:Nat)=>False)) (js1:=[]) (js2:=[]) (x:=z69.f1) (y:=(z69.f2,(z69.f3,(z69.f4,(z69.f5,z69.f6))))) (c0:=[.int .i64 0]) (c1:=[.int .i64 0,.int .i64 0,.int .i64 0,.slice none 0 0,.string (⟨#[]⟩:ByteArray)]) hd_none rfl (pair_app (a:=(Zd.int .i64)) (b:=(Zd.pair (Zd.int .i64) (Zd.pair (Zd.int .i64) (Zd.pair (Zd.slice 163 q163) Zd.string)))) (w:=w) (S:=(fun(_:Nat) (_:Nat)=>False)) (js1:=[]) (js2:=[]) (x:=z69.f2) (y:=(z69.f3,(z69.f4,(z69.f5,z69.f6)))) (c0:=[.int .i64 0]) (c1:=[.int .i64 0,.int .i64 0,.slice none 0 0,.string (⟨#[]⟩:ByteArray)]) hd_none rfl (pair_app (a:=(Zd.int .i64)) (b:=(Zd.pair (Zd.int .i64) (Zd.pair (Zd.slice 163 q163) Zd.string))) (w:=w) (S:=(fun(_:Nat) (_:Nat)=>False)) (js1:=[]) (js2:=[]) (x:=z69.f3) (y:=(z69.f4,(z69.f5,z69.f6))) (c0:=[.int .i64 0]) (c1:=[.int .i64 0,.slice none 0 0,.string (⟨#[]⟩:ByteArray)]) hd_none rfl (pair_app (a:=(Zd.int .i64)) (b:=(Zd.pair (Zd.slice 163 q163) Zd.string)) (w:=w) (S:=(fun(_:Nat) (_:Nat)=>False)) (js1:=[]) (js2:=[]) (x:=z69.f4) (y:=(z69.f5,z69.f6)) (c0:=[.int .i64 0]) (c1:=[.slice none 0 0,.string (⟨#[]⟩:ByteArray)]) hd_none rfl (pair_app (a:=(Zd.slice 163 q163)) (b:=Zd.string) (w:=w) (S:=(fun(_:Nat) (_:Nat)=>False)) (js1:=[]) (js2:=[]) (x:=z69.f5) (y:=z69.f6) (c0:=[.slice none 0 0]) (c1:=[.string (⟨#[]⟩:ByteArray)]) hd_none row_none rfl List.nodup_nil) List.nodup_nil) List.nodup_nil) List.nodup_nil) List.nodup_nil) List.nodup_nil))
theorem q69_pack {w:World}{S:Nat→FP}{x:S69}{v0:Value}{j0:Nat}(hd:∀i j k,i≠j→S i k→¬S j k)(h0:(Zd.slice 163 q163).M w (S j0) x.f5 [v0])(hn:[j0].Nodup):q69.M w (fun k=>∃i,i∈ [j0]∧S i k) x [.string x.f0,.int .i64 x.f1,.int .i64 x.f2,.int .i64 x.f3,.int .i64 x.f4,v0,.string x.f6]:=((pair_app (a:=Zd.string) (b:=(Zd.pair (Zd.int .i64) (Zd.pair (Zd.int .i64) (Zd.pair (Zd.int .i64) (Zd.pair (Zd.int .i64) (Zd.pair (Zd.slice 163 q163) Zd.string)))))) (w:=w) (S:=S) (js1:=[]) (js2:=[j0]) (x:=x.f0) (y:=(x.f1,(x.f2,(x.f3,(x.f4,(x.f5,x.f6)))))) (c0:=[.string x.f0]) (c1:=[.int .i64 x.f1,.int .i64 x.f2,.int .i64 x.f3,.int .i64 x.f4,v0,.string x.f6]) hd rfl (pair_app (a:=(Zd.int .i64)) (b:=(Zd.pair (Zd.int .i64) (Zd.pair (Zd.int .i64) (Zd.pair (Zd.int .i64) (Zd.pair (Zd.slice 163 q163) Zd.string))))) (w:=w) (S:=S) (js1:=[]) (js2:=[j0]) (x:=x.f1) (y:=(x.f2,(x.f3,(x.f4,(x.f5,x.f6))))) (c0:=[.int .i64 x.f1]) (c1:=[.int .i64 x.f2,.int .i64 x.f3,.int .i64 x.f4,v0,.string x.f6]) hd rfl (pair_app (a:=(Zd.int .i64)) (b:=(Zd.pair (Zd.int .i64) (Zd.pair (Zd.int .i64) (Zd.pair (Zd.slice 163 q163) Zd.string)))) (w:=w) (S:=S) (js1:=[]) (js2:=[j0]) (x:=x.f2) (y:=(x.f3,(x.f4,(x.f5,x.f6)))) (c0:=[.int .i64 x.f2]) (c1:=[.int .i64 x.f3,.int .i64 x.f4,v0,.string x.f6]) hd rfl (pair_app (a:=(Zd.int .i64)) (b:=(Zd.pair (Zd.int .i64) (Zd.pair (Zd.slice 163 q163) Zd.string))) (w:=w) (S:=S) (js1:=[]) (js2:=[j0]) (x:=x.f3) (y:=(x.f4,(x.f5,x.f6))) (c0:=[.int .i64 x.f3]) (c1:=[.int .i64 x.f4,v0,.string x.f6]) hd rfl (pair_app (a:=(Zd.int .i64)) (b:=(Zd.pair (Zd.slice 163 q163) Zd.string)) (w:=w) (S:=S) (js1:=[]) (js2:=[j0]) (x:=x.f4) (y:=(x.f5,x.f6)) (c0:=[.int .i64 x.f4]) (c1:=[v0,.string x.f6]) hd rfl (pair_app (a:=(Zd.slice 163 q163)) (b:=Zd.string) (w:=w) (S:=S) (js1:=[j0]) (js2:=[]) (x:=x.f5) (y:=x.f6) (c0:=[v0]) (c1:=[.string x.f6]) hd (made_one h0) rfl hn) hn) hn) hn) hn) hn))
theorem q57_zero (w:World)(S:FP):q57.M w S z57 [.string (⟨#[]⟩:ByteArray),.string (⟨#[]⟩:ByteArray)]:=made_none (a:=q57) ((pair_app (a:=Zd.string) (b:=Zd.string) (w:=w) (S:=(fun(_:Nat) (_:Nat)=>False)) (js1:=[]) (js2:=[]) (x:=z57.f0) (y:=z57.f1) (c0:=[.string (⟨#[]⟩:ByteArray)]) (c1:=[.string (⟨#[]⟩:ByteArray)]) hd_none rfl rfl List.nodup_nil))
theorem q57_flat (w:World)(S:FP)(x:S57):q57.M w S x [.string x.f0,.string x.f1]:=made_none (a:=q57) ((pair_app (a:=Zd.string) (b:=Zd.string) (w:=w) (S:=(fun(_:Nat) (_:Nat)=>False)) (js1:=[]) (js2:=[]) (x:=x.f0) (y:=x.f1) (c0:=[.string x.f0]) (c1:=[.string x.f1]) hd_none rfl rfl List.nodup_nil))
theorem q59_pack {w:World}{S:Nat→FP}{x:S59}{v0:Value}{j0:Nat}(hd:∀i j k,i≠j→S i k→¬S j k)(h0:(Zd.slice 41 q41).M w (S j0) x.f1 [v0])(hn:[j0].Nodup):q59.M w (fun k=>∃i,i∈ [j0]∧S i k) x [.int .i64 x.f0,v0]:=((pair_app (a:=(Zd.int .i64)) (b:=(Zd.slice 41 q41)) (w:=w) (S:=S) (js1:=[]) (js2:=[j0]) (x:=x.f0) (y:=x.f1) (c0:=[.int .i64 x.f0]) (c1:=[v0]) hd rfl (made_one h0) hn))
end Go.Proofs.YtncddikfafgklaaGreatDoor.F

/- Two functions of Go's library, by the shelf's contracts, told as parts that lie apart: strings.Split at a separator that is not empty, strconv.Itoa. No condition. -/
import Derived.Test.YtncddikfafgklaaGreatDoorZView
import Derived.Test.YtncddikfafgklaaGreatDoorShelf
import Derived.Lib.AppendIntMem
namespace Go.Proofs.YtncddikfafgklaaGreatDoor.Z
open Go.RowKit YtncddikfafgklaaGreatDoorW.PrintWords YtncddikfafgklaaGreatDoorW.PrintLast
theorem Hp.keept {P:Program}{w0 w:World}{rs:List Res}{n:String}{k:IntKind}{zs:List Int}(h:Hp noFP w0 w rs)(e:Go.Lib.TabIs P w0 n k zs):Go.Lib.TabIs P w n k zs:=Go.Lib.tabBelow_of_tabIs e _ h.below
theorem Hp.texts (w:World)(e:Nat)(xs:List ByteArray)(n:Nat)(hn:xs.length=n)(hm:n≤9223372036854775807):Hp noFP w (w.alloc (.cells (xs.map Value.string).toArray e (0,0))) [.own (Zd.slice e Zd.string) xs [.slice (some ⟨w.heap.size,0,none⟩) n n]]:=by
  subst hn
  refine(Hp.start w).trade (r0:=.own (Zd.slice e Zd.string) xs [.slice (some ⟨w.heap.size,0,none⟩) xs.length xs.length]) [] ⟨rfl,rfl,rfl,by simp⟩ (fun S h1 h2 h3=>?_)
  refine⟨fun k=>k=w.heap.size,⟨_,rfl,xs.map Value.string,?_,?_,fun _ _=>False,?_,?_,?_⟩,?_,?_⟩
  · have h4:=World.ownsRow_lit (base:=0) (e:=e) (size:=1) w (xs.map Value.string).toArray xs.length (Nat.zero_le _) (by simpa [maxLen] using hm) (by simp)
    have hz:Zd.string.kd.sz=1:=rfl
    rw [hz]
    simpa using h4
  · intro g hg
    simpa [Value.ownBlock] using hg.symm
  · exact fun _ _ h=>h.elim
  · exact fun _ _ _ _ h=>h.elim
  · intro j x hx
    show _=_
    have hj:j<xs.length:=(List.getElem?_eq_some_iff.1 hx).1
    have e1:xs[j]=x:=by rw [List.getElem?_eq_getElem hj] at hx;injection hx
    show List.take 1 (List.drop (j * 1) (xs.map Value.string))=[Value.string x]
    rw [Nat.mul_one,List.drop_eq_getElem_cons (by simpa using hj)]
    simp [e1]
  · rintro k rfl
    exact⟨.inr (Nat.le_refl _),by simp⟩
  · intro k hk _
    exact(below_alloc (Below.refl _ _) _:Below w.heap.size w _).block k hk
end Go.Proofs.YtncddikfafgklaaGreatDoor.Z
namespace Go.Proofs.YtncddikfafgklaaGreatDoor.F
open Go.RowKit YtncddikfafgklaaGreatDoorW.PrintWords YtncddikfafgklaaGreatDoorW.PrintLast Z
def strings_Split.f (s t:ByteArray):Option (List ByteArray):=if s.size<4294967281 then(if 1≤t.size then some (Go.Lib.splitB t 0 (Go.Lib.countB s t) s)else none)else none
theorem strings_Split.calls {s t:ByteArray}{mG:Int}{r:List ByteArray}{w:World}(h:strings_Split.f s t=some r)(hgM:w.cell? ⟨0,0,none⟩=some (.int .i64 mG)):
    Calls Tryz.prog 124 #[.string s,.string t] w (fun e w'=>∃v0_:Value,e=.returned v0_∧Hp noFP w w' [.own (Zd.slice 9 Zd.string) r [v0_]]):=by
  unfold strings_Split.f at h
  split at h
  · rename_i h0
    split at h
    · rename_i h1
      obtain rfl:=Option.some.inj h
      have hl:=Go.Lib.countB_le t h1 _ s (Nat.le_refl _)
      refine(Tryz.strings_Split s t mG w h0 hgM h1).mono ?_
      rintro e w' ⟨rfl,rfl⟩
      exact⟨_,rfl,Hp.texts w 9 _ _ (Go.Lib.splitB_all t h1 0 _ s rfl) (by omega)⟩
    · cases h
  · cases h
end Go.Proofs.YtncddikfafgklaaGreatDoor.F

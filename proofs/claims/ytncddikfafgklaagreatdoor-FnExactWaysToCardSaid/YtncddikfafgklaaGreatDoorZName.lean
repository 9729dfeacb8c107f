/- A text cut at its points, and asked part for part, or letter for letter: the same answer. Plain lemmas, no condition. -/
import Derived.Lib.SplitLaws
namespace Go.Proofs.YtncddikfafgklaaGreatDoor.ZP
open Go
def lower (b:UInt8):Bool:=decide (97≤b.toNat)&&decide (b.toNat≤122)
def specN:List UInt8→Nat→Bool
  | [],p=>decide (0<p)
  |b :: l,p=>if lower b=true then specN l (p+1)else if b=46 then(if 0<p then specN l 0 else false)else false
def okPart (l:List UInt8):Bool:=decide (0<l.length)&&l.all lower
def cutAt (l:List UInt8):List (List UInt8):=Lib.splitK [46] 0 (Lib.count l [46]) l
theorem index_dot (l:List UInt8):Lib.index (46 :: l) [46]=((0:Nat):Int):=by
  rw [Lib.index]
  simp [List.isPrefixOf]
theorem index_ne (b:UInt8)(hb:b≠46)(l:List UInt8):Lib.index (b :: l) [46]=if Lib.index l [46]== -1 then -1 else Lib.index l [46]+1:=by
  have hp:([46]:List UInt8).isPrefixOf (b :: l)=false:=by simp [List.isPrefixOf,Ne.symm hb]
  rw [Lib.index,hp]
  simp
theorem splitK_hit {s:List UInt8}{k i:Nat}(h:Lib.index s [46]=(i:Int)):Lib.splitK [46] 0 (k+1) s=s.take i :: Lib.splitK [46] 0 k (s.drop (i+1)):=by
  have hm:¬(Lib.index s [46]== -1)=true:=fun e=>by have:=beq_iff_eq.1 e;omega
  have e:(Lib.index s [46]).toNat=i:=by omega
  rw [Lib.splitK,if_neg hm,e]
  rfl
theorem cut_nil:cutAt []=[[]]:=rfl
theorem cut_dot (l:List UInt8):cutAt (46 :: l)=[] :: cutAt l:=by
  unfold cutAt
  rw [Lib.count_cons_eq,Nat.add_comm,splitK_hit (index_dot l)]
  simp
theorem cut_ne (b:UInt8)(hb:b≠46)(l:List UInt8):∃q ps,cutAt l=q :: ps∧cutAt (b :: l)=(b :: q) :: ps:=by
  unfold cutAt
  rw [Lib.count_cons_ne b 46 l hb]
  have hix:=index_ne b hb l
  by_cases hm:Lib.index l [46]= -1
  · rw [Lib.count_miss hm]
    exact⟨l,[],rfl,rfl⟩
  · have hge:=Lib.index_ge l [46]
    obtain⟨j,hj⟩:∃j:Nat,Lib.index l [46]=j:=⟨(Lib.index l [46]).toNat,by omega⟩
    have hix':Lib.index (b :: l) [46]=((j+1:Nat):Int):=by rw [hix,if_neg (fun e=>hm (beq_iff_eq.1 e)),hj];omega
    rw [Lib.count_hit (by simp) hj,Nat.add_comm 1,splitK_hit hj,splitK_hit hix']
    exact⟨_,_,rfl,by simp⟩
theorem cut_cons (l:List UInt8):∃q ps,cutAt l=q :: ps:=by
  cases l with
  |nil=>exact⟨_,_,cut_nil⟩
  | cons b l=>
    by_cases hb:b=46
    · subst hb;exact⟨_,_,cut_dot l⟩
    · obtain⟨q,ps,_,h⟩:=cut_ne b hb l;exact⟨_,_,h⟩
theorem cut_spec:∀(l:List UInt8) (p:Nat) (q:List UInt8) (ps:List (List UInt8)),cutAt l=q :: ps→(decide (0<p+q.length)&&(q.all lower&&ps.all okPart))=specN l p
  | [],p,q,ps,h=>by
    rw [cut_nil] at h
    injection h with h1 h2
    subst h1;subst h2
    simp [specN]
  | b :: l,p,q,ps,h=>by
    by_cases hb:b=46
    · subst hb
      rw [cut_dot] at h
      injection h with h1 h2
      subst h1;subst h2
      obtain⟨q,ps,hq⟩:=cut_cons l
      have ih:=cut_spec l 0 q ps hq
      rw [hq,specN]
      have hl:¬lower 46=true:=by decide
      rw [if_neg hl,if_pos rfl,←ih]
      by_cases hp:0<p
      · rw [if_pos hp];simp [hp,okPart,Bool.and_assoc]
      · rw [if_neg hp];simp [hp]
    · obtain⟨q',ps',h0,h1⟩:=cut_ne b hb l
      rw [h1] at h
      injection h with h2 h3
      subst h2;subst h3
      have ih:=cut_spec l (p+1) q' ps' h0
      rw [specN]
      by_cases hl:lower b=true
      · rw [if_pos hl,←ih]
        simp only [List.all_cons,hl,Bool.true_and,List.length_cons]
        congr 2
        simp only [eq_iff_iff];omega
      · rw [if_neg hl,if_neg hb]
        have:lower b=false:=by simpa using hl
        simp [this]
theorem cut_all (l:List UInt8):(cutAt l).all okPart=specN l 0:=by
  obtain⟨q,ps,hq⟩:=cut_cons l
  rw [←cut_spec l 0 q ps hq,hq]
  simp [okPart,Bool.and_assoc]
theorem split_all (s:ByteArray):(Lib.splitB ⟨#[46]⟩ 0 (Lib.countB s ⟨#[46]⟩) s).all (fun x=>okPart x.data.toList)=specN s.data.toList 0:=by
  rw [←cut_all]
  have h:=Lib.splitB_data ⟨#[46]⟩ 0 (Lib.countB s ⟨#[46]⟩) s
  show _=(Lib.splitK [46] 0 (Lib.count s.data.toList [46]) s.data.toList).all okPart
  rw [show(Lib.splitK [46] 0 (Lib.count s.data.toList [46]) s.data.toList)=(Lib.splitB ⟨#[46]⟩ 0 (Lib.countB s ⟨#[46]⟩) s).map (·.data.toList)from h.symm,List.all_map]
  rfl
theorem specN_ne:∀l:List UInt8,specN l 0=true→0<l.length
  | [],h=>by simp [specN] at h
  |b :: l,_=>by simp
end Go.Proofs.YtncddikfafgklaaGreatDoor.ZP

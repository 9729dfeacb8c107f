/- Names, rows of names and of numbers: both ways of asking whether they are right agree. Plain lemmas, no condition. -/
import Derived.Test.YtncddikfafgklaaGreatDoorItemFnExactWaysTo
import Derived.Test.YtncddikfafgklaaGreatDoorZName
namespace Go.Proofs.YtncddikfafgklaaGreatDoor.NameFnExactWaysTo
open Go.RowKit YtncddikfafgklaaGreatDoorW.PrintWords YtncddikfafgklaaGreatDoorW.PrintLast ZOpen Z F
open ZP ItemFnExactWaysTo
set_option linter.unusedVariables false
set_option linter.unusedSimpArgs false
set_option maxHeartbeats 4000000
theorem some_ite {α:Type}{c:Prop} [Decidable c] (a b:α):(if c then some a else some b)=some (if c then a else b):=by split <;> rfl
theorem wn (i:Nat)(hi:i≤4294967296):wrap64 ((i:Int)+1)=((i+1:Nat):Int):=by rw [w64 (by omega) (by omega)];rfl
theorem bt_data (s:ByteArray)(i:Nat)(h:i<s.size):bt s (i:Int)=((s.data.toList[i]'(by rw [data_length];exact h)).toNat:Int):=by
  unfold bt
  rw [dif_pos (by simpa using h)]
  rfl
theorem cut_le:∀(l:List UInt8),(cutAt l).length≤l.length+1∧∀p∈cutAt l,p.length≤l.length
  | []=>by rw [cut_nil];exact⟨by simp,fun p hp=>by rw [List.mem_singleton.1 hp];simp⟩
  | b :: l=>by
    obtain⟨h1,h2⟩:=cut_le l
    by_cases hb:b=46
    · subst hb
      rw [cut_dot]
      refine⟨by simp only [List.length_cons];omega,fun p hp=>?_⟩
      rcases List.mem_cons.1 hp with rfl|hp
      · simp
      · have:=h2 p hp
        simp only [List.length_cons]
        omega
    · obtain⟨q,ps,e1,e2⟩:=cut_ne b hb l
      rw [e2]
      rw [e1] at h1 h2
      refine⟨by simp only [List.length_cons] at h1⊢;omega,fun p hp=>?_⟩
      rcases List.mem_cons.1 hp with rfl|hp
      · have:=h2 q (List.mem_cons_self ..)
        simp only [List.length_cons]
        omega
      · have:=h2 p (List.mem_cons_of_mem _ hp)
        simp only [List.length_cons]
        omega
def parts (s:ByteArray):List ByteArray:=Lib.splitB ⟨#[46]⟩ 0 (Lib.countB s ⟨#[46]⟩) s
theorem parts_data (s:ByteArray):(parts s).map (·.data.toList)=cutAt s.data.toList:=Lib.splitB_data ⟨#[46]⟩ 0 (Lib.countB s ⟨#[46]⟩) s
theorem parts_le (s:ByteArray):(parts s).length≤s.size+1∧∀p∈parts s,p.size≤s.size:=by
  obtain⟨h1,h2⟩:=cut_le s.data.toList
  rw [←parts_data,data_length] at h1 h2
  rw [List.length_map] at h1
  refine⟨h1,fun p hp=>?_⟩
  have:=h2 _ (List.mem_map_of_mem hp)
  rwa [data_length] at this
theorem bytes_in (s:ByteArray)(hs:s.size≤1048576):∀(m i k:Nat),s.size - i=m→i≤s.size→m<k→impl_bytesIn.l0 k (i:Int) s 97 122=some ((s.data.toList.drop i).all lower):=by
  have hl:=data_length s
  intro m
  induction m with
  | zero=>
    intro i k hm hi hk
    obtain⟨k,rfl⟩:∃q,k=q+1:=⟨k - 1,by omega⟩
    obtain rfl:i=s.size:=by omega
    rw [impl_bytesIn.l0,if_neg (by omega),List.drop_of_length_le (by omega)]
    rfl
  | succ m ih=>
    intro i k hm hi hk
    obtain⟨k,rfl⟩:∃q,k=q+1:=⟨k - 1,by omega⟩
    have hil:i<s.size:=by omega
    have hil':i<s.data.toList.length:=by omega
    have hr:=bt_range s (i:Int)
    rw [impl_bytesIn.l0,if_pos (by omega),if_pos (by omega),if_pos (by omega),in_g,Option.bind_some,wn i (by omega),ih (i+1) k (by omega) (by omega) (by omega),List.drop_eq_getElem_cons hil',List.all_cons,show wrap64 (bt s (i:Int))=bt s (i:Int)from w64 (by omega) (by omega),bt_data s i hil]
    have e:decide ((97:Int)≤(s.data.toList[i].toNat:Int)∧(s.data.toList[i].toNat:Int)≤122)=lower s.data.toList[i]:=by
      unfold lower
      rw [←Bool.decide_and]
      exact decide_eq_decide.2 ⟨fun h=>by omega,fun h=>by omega⟩
    rw [e]
    cases lower s.data.toList[i] <;> rfl
theorem name_loop (s:ByteArray)(ts:List ByteArray)(hl:ts.length≤1048577)(ht:∀p∈ts,p.size≤1048576):∀(m i k:Nat),ts.length - i=m→i≤ts.length→m+1048577<k→
    impl_NameOk.l0 k (i:Int) s ts=some ((ts.drop i).all (fun x=>okPart x.data.toList)&&decide ((s.size:Int)≤20)):=by
  intro m
  induction m with
  | zero=>
    intro i k hm hi hk
    obtain⟨k,rfl⟩:∃q,k=q+1:=⟨k - 1,by omega⟩
    obtain rfl:i=ts.length:=by omega
    rw [impl_NameOk.l0,if_neg (by omega),List.drop_length,List.all_nil,Bool.true_and]
  | succ m ih=>
    intro i k hm hi hk
    obtain⟨k,rfl⟩:∃q,k=q+1:=⟨k - 1,by omega⟩
    have hil:i<ts.length:=by omega
    have hr:rdOf ByteArray.empty ts (i:Int)=ts[i]:=by simp [rdOf,hil]
    have hp:=ht _ (List.getElem_mem hil)
    have hb:impl_bytesIn.f k ts[i] 97 122=some (ts[i].data.toList.all lower):=bytes_in _ hp _ 0 k rfl (Nat.zero_le _) (by omega)
    rw [impl_NameOk.l0,if_pos (by omega),if_pos (by omega),if_pos (by omega),hr,hb,Option.bind_some,wn i (by omega),ih (i+1) k (by omega) (by omega) (by omega),List.drop_eq_getElem_cons hil,List.all_cons]
    by_cases c:ts[i].toList=([]:List UInt8)
    · have h0:=ba_nil.1 c
      rw [if_pos c,show okPart ts[i].data.toList=false by unfold okPart;rw [data_length,h0];rfl]
      rfl
    · have h0:0<ts[i].size:=by
        rcases Nat.eq_zero_or_pos ts[i].size with h|h
        · exact absurd (ba_nil.2 h) c
        · exact h
      rw [if_neg c,show okPart ts[i].data.toList=ts[i].data.toList.all lower by unfold okPart;rw [data_length,decide_eq_true h0,Bool.true_and]]
      cases ts[i].data.toList.all lower <;> rfl
def nameB (s:ByteArray):Bool:=specN s.data.toList 0&&decide ((s.size:Int)≤20)
theorem name_g (s:ByteArray)(hs:s.size≤1048576)(k:Nat)(hk:2097156≤k):impl_NameOk.f k s=some (nameB s):=by
  obtain⟨h1,h2⟩:=parts_le s
  have e:strings_Split.f s (⟨#[46]⟩:ByteArray)=some (parts s):=by
    unfold strings_Split.f
    rw [if_pos (by omega),if_pos (by decide)]
    rfl
  unfold impl_NameOk.f
  rw [e,Option.bind_some]
  have h:=name_loop s (parts s) (by omega) (fun p hp=>by have:=h2 p hp;omega) _ 0 k rfl (Nat.zero_le _) (by omega)
  rw [List.drop_zero] at h
  refine h.trans ?_
  unfold nameB
  rw [←split_all s]
  rfl
theorem name_l (s:ByteArray)(hs:s.size≤1048576):∀(m i p k:Nat),s.size - i=m→i≤s.size→p≤i→m<k→
    spec_NameOk.l0 k (p:Int) (i:Int) s=some (specN (s.data.toList.drop i) p&&decide (1≤(s.size:Int)∧(s.size:Int)≤20)):=by
  have hl:=data_length s
  intro m
  induction m with
  | zero=>
    intro i p k hm hi hp hk
    obtain⟨k,rfl⟩:∃q,k=q+1:=⟨k - 1,by omega⟩
    obtain rfl:i=s.size:=by omega
    rw [spec_NameOk.l0,if_neg (by omega),List.drop_of_length_le (by omega),in_f,Option.bind_some,specN]
    by_cases c:(1:Int)≤(s.size:Int)∧(s.size:Int)≤20
    · rw [decide_eq_true c,if_pos rfl,Bool.and_true]
      exact congrArg some (decide_eq_decide.2 ⟨fun h=>by omega,fun h=>by omega⟩)
    · rw [decide_eq_false c,if_neg (by simp),Bool.and_false]
  | succ m ih=>
    intro i p k hm hi hp hk
    obtain⟨k,rfl⟩:∃q,k=q+1:=⟨k - 1,by omega⟩
    have hil:i<s.size:=by omega
    have hil':i<s.data.toList.length:=by omega
    have e1:=ih (i+1) (p+1) k (by omega) (by omega) (by omega) (by omega)
    have e2:=ih (i+1) 0 k (by omega) (by omega) (by omega) (by omega)
    have hx:=bt_data s i hil
    rw [spec_NameOk.l0,if_pos (by omega),if_pos (by omega),if_pos (by omega),wn i (by omega),wn p (by omega),hx,e1,List.drop_eq_getElem_cons hil',specN]
    generalize s.data.toList[i]=b
    have e46:b.toNat=46↔b=46:=⟨fun h=>UInt8.toNat_inj.1 h,fun h=>by rw [h];rfl⟩
    have e0:spec_NameOk.l0 k 0 ((i+1:Nat):Int) s=_:=e2
    by_cases c1:97≤b.toNat∧b.toNat≤122
    · have hlow:lower b=true:=by unfold lower;rw [decide_eq_true c1.1,decide_eq_true c1.2];rfl
      rw [if_pos (by omega),if_pos (by omega),if_pos hlow]
    · have hlow:¬lower b=true:=by
        intro h
        unfold lower at h
        rw [Bool.and_eq_true] at h
        exact c1 ⟨of_decide_eq_true h.1,of_decide_eq_true h.2⟩
      have key:(if(b.toNat:Int)=46 then(if(0:Int)<(p:Int)then spec_NameOk.l0 k 0 ((i+1:Nat):Int) s else some false)else some false)=some ((if b=46 then(if 0<p then specN (s.data.toList.drop (i+1)) 0 else false)else false)&&decide (1≤(s.size:Int)∧(s.size:Int)≤20)):=by
        by_cases c2:b=46
        · rw [if_pos (by have:=e46.2 c2;omega),if_pos c2]
          by_cases c3:0<p
          · rw [if_pos (by omega),if_pos c3,e0]
          · rw [if_neg (by omega),if_neg c3,Bool.false_and]
        · rw [if_neg (fun h=>c2 (e46.1 (by omega))),if_neg c2,Bool.false_and]
      rw [if_neg hlow]
      by_cases c4:(97:Int)≤(b.toNat:Int)
      · rw [if_pos c4,if_neg (by omega)]
        exact key
      · rw [if_neg c4]
        exact key
theorem name_f (s:ByteArray)(hs:s.size≤1048576)(k:Nat)(hk:1048577≤k):spec_NameOk.f k s=some (nameB s):=by
  have h:=name_l s hs _ 0 0 k rfl (Nat.zero_le _) (Nat.le_refl _) (by omega)
  rw [List.drop_zero] at h
  refine h.trans (congrArg some ?_)
  unfold nameB
  cases c:specN s.data.toList 0 with
  |false=>rfl
  | true=>
    have:=specN_ne _ c
    rw [data_length] at this
    rw [Bool.true_and,Bool.true_and]
    exact decide_eq_decide.2 ⟨fun h=>h.2,fun h=>⟨by omega,h⟩⟩
theorem names (l:List ByteArray)(hl:l.length≤1048576∧∀e∈l,e.size≤1048576):∃b,Evt (fun k=>spec_NamesOk.f k l) b∧Evt (fun k=>impl_NamesOk.f k l) b:=by
  have hn:=hl.1
  have key:∀(m i:Nat),l.length - i=m→i≤l.length→∃b,Evt (fun k=>spec_NamesOk.l0 k (i:Int) l) b∧Evt (fun k=>impl_NamesOk.l0 k (i:Int) l) b:=by
    intro m
    induction m with
    | zero=>
      intro i hm hi
      obtain rfl:i=l.length:=by omega
      exact⟨_,Evt.succ (.of fun k=>by rw [spec_NamesOk.l0,if_neg (by omega)]),Evt.succ (.of fun k=>by rw [impl_NamesOk.l0,if_neg (by omega)])⟩
    | succ m ih=>
      intro i hm hi
      have hil:i<l.length:=by omega
      obtain⟨b,⟨K1,h1⟩,⟨K2,h2⟩⟩:=ih (i+1) (by omega) (by omega)
      have hr:rdOf ByteArray.empty l (i:Int)=l[i]:=by simp [rdOf,hil]
      have hs:=hl.2 _ (List.getElem_mem hil)
      refine⟨if nameB l[i]=true then(if 0<(i:Int)then(if(Op.bytesLess ((rdOf ByteArray.empty l (wrap64 ((i:Int) - 1))).toList) (l[i].toList))=true then b else false)else b)else false,Evt.succ (.at_ (2097156+K1) fun k hk=>?_),Evt.succ (.at_ (2097156+K2) fun k hk=>?_)⟩
      · have h1:=h1 k (by omega)
        simp only at h1
        rw [spec_NamesOk.l0,if_pos (by omega),if_pos (by omega),if_pos (by omega),hr,name_f _ hs k (by omega),Option.bind_some,wn i (by omega),h1]
        by_cases c:0<(i:Int)
        · have e1:wrap64 ((i:Int) - 1)=(i:Int) - 1:=w64 (by omega) (by omega)
          have q0:(0<(i:Int))=True:=eq_true c
          have q1:(0≤wrap64 ((i:Int) - 1))=True:=eq_true (by omega)
          have q2:(wrap64 ((i:Int) - 1)<(l.length:Int))=True:=eq_true (by omega)
          simp only [q0,q1,q2,if_true,some_ite]
        · have q0:(0<(i:Int))=False:=eq_false c
          simp only [q0,if_false,some_ite]
      · have h2:=h2 k (by omega)
        simp only at h2
        rw [impl_NamesOk.l0,if_pos (by omega),if_pos (by omega),if_pos (by omega),hr,name_g _ hs k (by omega),Option.bind_some,wn i (by omega),h2]
        by_cases c:0<(i:Int)
        · have e1:wrap64 ((i:Int) - 1)=(i:Int) - 1:=w64 (by omega) (by omega)
          have q0:(0<(i:Int))=True:=eq_true c
          have q1:(0≤wrap64 ((i:Int) - 1))=True:=eq_true (by omega)
          have q2:(wrap64 ((i:Int) - 1)<(l.length:Int))=True:=eq_true (by omega)
          simp only [q0,q1,q2,if_true,some_ite]
        · have q0:(0<(i:Int))=False:=eq_false c
          simp only [q0,if_false,some_ite]
  exact key _ 0 rfl (Nat.zero_le _)
theorem pols (l:List Int)(hn:l.length≤1048576):∃b,Evt (fun k=>spec_PoliciesOk.f k l) b∧Evt (fun k=>impl_PoliciesOk.f k l) b:=by
  have key:∀(m i:Nat),l.length - i=m→i≤l.length→∃b,Evt (fun k=>spec_PoliciesOk.l0 k (i:Int) l) b∧Evt (fun k=>impl_PoliciesOk.l0 k (i:Int) l) b:=by
    intro m
    induction m with
    | zero=>
      intro i hm hi
      obtain rfl:i=l.length:=by omega
      exact⟨_,Evt.succ (.of fun k=>by rw [spec_PoliciesOk.l0,if_neg (by omega)]),Evt.succ (.of fun k=>by rw [impl_PoliciesOk.l0,if_neg (by omega)])⟩
    | succ m ih=>
      intro i hm hi
      have hil:i<l.length:=by omega
      obtain⟨b,⟨K1,h1⟩,⟨K2,h2⟩⟩:=ih (i+1) (by omega) (by omega)
      refine⟨if decide (0≤rd l (i:Int)∧rd l (i:Int)≤99)=true then(if 0<(i:Int)then(if rd l (i:Int)≤rd l (wrap64 ((i:Int) - 1))then false else b)else b)else false,Evt.succ (.at_ K1 fun k hk=>?_),Evt.succ (.at_ K2 fun k hk=>?_)⟩
      · have h1:=h1 k (by omega)
        simp only at h1
        rw [spec_PoliciesOk.l0,if_pos (by omega),if_pos (by omega),if_pos (by omega),in_f,Option.bind_some,wn i (by omega),h1]
        by_cases c:0<(i:Int)
        · have e1:wrap64 ((i:Int) - 1)=(i:Int) - 1:=w64 (by omega) (by omega)
          have q0:(0<(i:Int))=True:=eq_true c
          have q1:(0≤wrap64 ((i:Int) - 1))=True:=eq_true (by omega)
          have q2:(wrap64 ((i:Int) - 1)<(l.length:Int))=True:=eq_true (by omega)
          simp only [q0,q1,q2,if_true,some_ite]
        · have q0:(0<(i:Int))=False:=eq_false c
          simp only [q0,if_false,some_ite]
      · have h2:=h2 k (by omega)
        simp only at h2
        rw [impl_PoliciesOk.l0,if_pos (by omega),if_pos (by omega),if_pos (by omega),in_g,Option.bind_some,wn i (by omega),h2]
        by_cases c:0<(i:Int)
        · have e1:wrap64 ((i:Int) - 1)=(i:Int) - 1:=w64 (by omega) (by omega)
          have q0:(0<(i:Int))=True:=eq_true c
          have q1:(0≤wrap64 ((i:Int) - 1))=True:=eq_true (by omega)
          have q2:(wrap64 ((i:Int) - 1)<(l.length:Int))=True:=eq_true (by omega)
          simp only [q0,q1,q2,if_true,some_ite]
        · have q0:(0<(i:Int))=False:=eq_false c
          simp only [q0,if_false,some_ite]
  exact key _ 0 rfl (Nat.zero_le _)
end Go.Proofs.YtncddikfafgklaaGreatDoor.NameFnExactWaysTo

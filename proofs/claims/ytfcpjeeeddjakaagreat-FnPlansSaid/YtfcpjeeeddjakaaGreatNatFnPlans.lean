/- Great numbers, as lists of figures: the reference's sums, products and divisions come to an end, and what they give. Plain lemmas, no condition. -/
import Derived.Test.YtfcpjeeeddjakaaGreatItemFnPlans
namespace Go.Proofs.YtfcpjeeeddjakaaGreat.NatFnPlans
open Go.RowKit YtfcpjeeeddjakaaGreatW.PrintWords YtfcpjeeeddjakaaGreatW.PrintLast ZOpen Z F
open ZP ItemFnPlans
set_option linter.unusedVariables false
set_option linter.unusedSimpArgs false
set_option maxHeartbeats 4000000
def Lim (l:List Int):Prop:=∀x∈l,0≤x∧x≤9999
def val:List Int→Int
  | []=>0
  |x :: l=>x+10000 * val l
def Trm (l:List Int):Prop:=∀x,l.getLast?=some x→x≠0
theorem w_pred {n:Nat}(h:n+1≤4611686018427387904):wrap64 (((n+1:Nat):Int) - 1)=(n:Int):=by rw [w64 (by omega) (by omega)];omega
theorem w_succ {n:Nat}(h:n+1≤4611686018427387904):wrap64 ((n:Int)+1)=((n+1:Nat):Int):=by rw [w64 (by omega) (by omega)];omega
theorem rdn (x:List Int)(i:Nat)(h:i<x.length):rd x (i:Int)=x[i]:=by simp [rd,h]
theorem pow_pos (n:Nat):(0:Int)<10000 ^ n:=Int.pow_pos (by decide)
theorem pow_s (n:Nat):(10000:Int) ^ (n+1)=10000 * 10000 ^ n:=by rw [Int.pow_succ,Int.mul_comm]
theorem Lim.nil:Lim []:=fun x hx=>by cases hx
theorem Lim.app {a b:List Int}(ha:Lim a)(hb:Lim b):Lim (a++b):=fun x hx=>(List.mem_append.1 hx).elim (ha x) (hb x)
theorem Lim.one {x:Int}(h0:0≤x)(h1:x≤9999):Lim [x]:=fun y hy=>by rw [List.mem_singleton.1 hy];exact⟨h0,h1⟩
theorem Lim.take {a:List Int}(n:Nat)(h:Lim a):Lim (a.take n):=fun x hx=>h x (List.mem_of_mem_take hx)
theorem Lim.drop {a:List Int}(n:Nat)(h:Lim a):Lim (a.drop n):=fun x hx=>h x (List.mem_of_mem_drop hx)
theorem Lim.get {a:List Int}(h:Lim a){i:Nat}(hi:i<a.length):0≤a[i]∧a[i]≤9999:=h _ (List.getElem_mem hi)
theorem val_app:∀(a b:List Int),val (a++b)=val a+10000 ^ a.length * val b
  | [],b=>by simp [val]
  | x :: a,b=>by
    rw [List.cons_append,val,val,val_app a b,List.length_cons,pow_s]
    grind
theorem val_nonneg:∀(l:List Int),Lim l→0≤val l
  | [],_=>Int.le_refl 0
  | x :: l,h=>by
    have h1:=val_nonneg l (fun y hy=>h y (List.mem_cons_of_mem _ hy))
    have h2:=(h x (by simp)).1
    rw [val]
    omega
theorem val_lt:∀(l:List Int),Lim l→val l<10000 ^ l.length
  | [],_=>by simp [val]
  | x :: l,h=>by
    have h1:=val_lt l (fun y hy=>h y (List.mem_cons_of_mem _ hy))
    have h2:=(h x (by simp)).2
    rw [val,List.length_cons,pow_s]
    omega
theorem val_snoc (l:List Int)(x:Int):val (l++ [x])=val l+10000 ^ l.length * x:=by rw [val_app];simp [val]
theorem take_snoc (l:List Int){i:Nat}(h:i<l.length):l.take (i+1)=l.take i++ [l[i]]:=List.take_succ_eq_append_getElem h
theorem val_take (l:List Int){i:Nat}(h:i<l.length):val (l.take (i+1))=val (l.take i)+10000 ^ i * l[i]:=by
  rw [take_snoc l h,val_snoc,List.length_take,Nat.min_eq_left (by omega)]
theorem val_split (l:List Int)(i:Nat)(h:i≤l.length):val l=val (l.take i)+10000 ^ i * val (l.drop i):=by
  have:=val_app (l.take i) (l.drop i)
  rw [List.take_append_drop,List.length_take,Nat.min_eq_left h] at this
  exact this
theorem val_drop (l:List Int){i:Nat}(h:i<l.length):val (l.drop i)=l[i]+10000 * val (l.drop (i+1)):=by
  rw [List.drop_eq_getElem_cons h,val]
theorem val_rep:∀n:Nat,val (List.replicate n 0)=0
  |0=>rfl
  |n+1=>by rw [List.replicate_succ,val,val_rep n];rfl
theorem lim_rep (n:Nat):Lim (List.replicate n 0):=fun x hx=>by rw [(List.mem_replicate.1 hx).2];decide
theorem trm_ge {l:List Int}{n:Nat}(hl:Lim l)(ht:Trm l)(hn:l.length=n+1):(10000:Int) ^ n≤val l:=by
  have h1:n<l.length:=by omega
  have h2:=val_split l n (by omega)
  have h3:l.drop n=[l[n]]:=by rw [List.drop_eq_getElem_cons h1,List.drop_eq_nil_of_le (by omega)]
  rw [h3] at h2
  have h4:=val_nonneg _ (hl.take n)
  have h5:l[n]≠0:=ht _ (by rw [List.getLast?_eq_getElem?,show l.length - 1=n by omega,List.getElem?_eq_getElem h1])
  have h6:=(hl.get h1).1
  have h7:=pow_pos n
  have h8:val [l[n]]=l[n]:=by simp [val]
  rw [h8] at h2
  have h9:(10000:Int) ^ n * 1≤10000 ^ n * l[n]:=Int.mul_le_mul_of_nonneg_left (by omega) (by omega)
  omega
theorem pow_le {i j:Nat}(h:i≤j):(10000:Int) ^ i≤10000 ^ j:=by
  induction j with
  | zero=>
    obtain rfl:i=0:=by omega
    exact Int.le_refl _
  | succ j ih=>
    by_cases e:i=j+1
    · subst e
      exact Int.le_refl _
    · have:=ih (by omega)
      have:=pow_pos j
      rw [pow_s]
      omega
theorem len_le {a b:List Int}(ha:Lim a)(ta:Trm a)(hb:Lim b)(h:val a≤val b):a.length≤b.length:=by
  by_cases c:a.length≤b.length
  · exact c
  · obtain⟨n,hn⟩:∃n,a.length=n+1:=⟨a.length - 1,by omega⟩
    have h1:=trm_ge ha ta hn
    have h2:=val_lt b hb
    have h3:=pow_le (i:=b.length) (j:=n) (by omega)
    omega
theorem val_pos {a:List Int}(ha:Lim a)(ta:Trm a)(h:0<a.length):0<val a:=by
  obtain⟨n,hn⟩:∃n,a.length=n+1:=⟨a.length - 1,by omega⟩
  have h1:=trm_ge ha ta hn
  have:=pow_pos n
  omega
theorem Trm.nil:Trm []:=fun x h=>by simp at h
theorem Trm.one {x:Int}(h:x≠0):Trm [x]:=fun y hy=>by simp at hy;omega
theorem trim_e:∀(n:Nat) (l:List Int),l.length=n→n≤1099511627776→Lim l→∃t,Evt (fun k=>spec_l04Trim.l0 k l) t∧val t=val l∧Lim t∧Trm t∧t.length≤l.length
  | 0,l,hn,_,hl=>by
    obtain rfl:l=[]:=List.eq_nil_of_length_eq_zero hn
    exact⟨[],Evt.succ (.of fun k=>by rw [spec_l04Trim.l0,if_neg (by simp)]),rfl,hl,Trm.nil,Nat.le_refl _⟩
  | n + 1, l, hn, hb, hl => by
    have e1:wrap64 ((l.length:Int) - 1)=(n:Int):=by rw [hn];exact w_pred (by omega)
    have hlt:n<l.length:=by omega
    have hd:l.drop n=[l[n]]:=by rw [List.drop_eq_getElem_cons hlt,List.drop_eq_nil_of_le (by omega)]
    have hs:=val_split l n (by omega)
    rw [hd] at hs
    by_cases c:l[n]=0
    · obtain⟨t,h1,h2,h3,h4,h5⟩:=trim_e n (l.take n) (by rw [List.length_take];omega) (by omega) (hl.take n)
      refine⟨t,Evt.succ (h1.eq fun k=>?_),?_,h3,h4,by rw [List.length_take] at h5;omega⟩
      · rw [spec_l04Trim.l0,e1,if_pos (by omega),if_pos (by omega),if_pos (by omega),rdn l n hlt,if_pos c,if_pos (by omega)]
        rfl
      · rw [h2,hs,c];simp [val]
    · refine⟨l,Evt.succ (.of fun k=>?_),rfl,hl,fun x hx=>?_,Nat.le_refl _⟩
      · rw [spec_l04Trim.l0,e1,if_pos (by omega),if_pos (by omega),if_pos (by omega),rdn l n hlt,if_neg c]
      · rw [List.getLast?_eq_getElem?,show l.length - 1=n by omega,List.getElem?_eq_getElem hlt] at hx
        exact fun h=>c (by rw [Option.some.inj hx];exact h)
theorem trim (l:List Int)(hb:l.length≤1099511627776)(hl:Lim l):∃t,Evt (fun k=>spec_l04Trim.f k l) t∧val t=val l∧Lim t∧Trm t∧t.length≤l.length:=trim_e _ l rfl hb hl
theorem cmp_loop {a b:List Int}(ha:Lim a)(hb:Lim b)(hn:a.length=b.length)(hl:a.length≤1099511627776):∀(m:Nat),m≤a.length→val (a.drop m)=val (b.drop m)→
    ∃c,Evt (fun k=>spec_l04Cmp.l0 k ((m:Int) - 1) a b) c∧(0<c↔val b<val a)∧(0≤c↔val b≤val a)
  | 0,_,he=>by
    rw [List.drop_zero,List.drop_zero] at he
    exact⟨0,Evt.succ (.of fun k=>by rw [spec_l04Cmp.l0,if_neg (by simp)]),by omega,by omega⟩
  | m + 1, hm, he => by
    have h1:m<a.length:=by omega
    have h2:m<b.length:=by omega
    have da:=val_drop a h1
    have db:=val_drop b h2
    have sa:=val_split a m (by omega)
    have sb:=val_split b m (by omega)
    have la:=val_lt _ (ha.take m)
    have lb:=val_lt _ (hb.take m)
    have na:=val_nonneg _ (ha.take m)
    have nb:=val_nonneg _ (hb.take m)
    rw [List.length_take,Nat.min_eq_left (by omega)] at la lb
    have hp:=pow_pos m
    have e0:((m+1:Nat):Int) - 1=(m:Int):=by omega
    have e1:wrap64 ((m:Int) - 1)=(m:Int) - 1:=w64 (by omega) (by omega)
    by_cases c1:a[m] <b[m]
    · refine⟨-1,Evt.succ (.of fun k=>?_),?_,?_⟩
      · rw [e0,spec_l04Cmp.l0,if_pos (by omega),if_pos (by omega),if_pos (by omega),if_pos (by omega),rdn a m h1,rdn b m h2,if_pos c1]
      all_goals
        have h3:val (a.drop m)+1≤val (b.drop m):=by omega
        have h4:(10000:Int) ^ m * (val (a.drop m)+1)≤10000 ^ m * val (b.drop m):=Int.mul_le_mul_of_nonneg_left h3 (by omega)
        rw [Int.mul_add,Int.mul_one] at h4
        omega
    · by_cases c2:b[m] <a[m]
      · refine⟨1,Evt.succ (.of fun k=>?_),?_,?_⟩
        · rw [e0,spec_l04Cmp.l0,if_pos (by omega),if_pos (by omega),if_pos (by omega),if_pos (by omega),rdn a m h1,rdn b m h2,if_neg c1,if_pos c2]
        all_goals
          have h3:val (b.drop m)+1≤val (a.drop m):=by omega
          have h4:(10000:Int) ^ m * (val (b.drop m)+1)≤10000 ^ m * val (a.drop m):=Int.mul_le_mul_of_nonneg_left h3 (by omega)
          rw [Int.mul_add,Int.mul_one] at h4
          omega
      · obtain⟨c,i1,i2,i3⟩:=cmp_loop ha hb hn hl m (by omega) (by omega)
        refine⟨c,Evt.succ (i1.eq fun k=>?_),i2,i3⟩
        rw [e0,spec_l04Cmp.l0,if_pos (by omega),if_pos (by omega),if_pos (by omega),if_pos (by omega),rdn a m h1,rdn b m h2,if_neg c1,if_neg c2,e1]
theorem cmp {a b:List Int}(ha:Lim a)(hb:Lim b)(ta:Trm a)(tb:Trm b)(hl:a.length≤1099511627776)(hl':b.length≤1099511627776):∃c,Evt (fun k=>spec_l04Cmp.f k a b) c∧(0<c↔val b<val a)∧(0≤c↔val b≤val a):=by
  by_cases c1:a.length=b.length
  · obtain⟨c,h1,h2⟩:=cmp_loop ha hb c1 hl a.length (Nat.le_refl _) (by rw [List.drop_eq_nil_of_le (Nat.le_refl _),List.drop_eq_nil_of_le (by omega)])
    refine⟨c,h1.eq fun k=>?_,h2⟩
    have e1:wrap64 ((a.length:Int) - 1)=(a.length:Int) - 1:=w64 (by omega) (by omega)
    rw [spec_l04Cmp.f,if_pos (by omega),e1]
  · by_cases c2:a.length<b.length
    · have h:¬val b≤val a:=fun h=>absurd (len_le hb tb ha h) (by omega)
      exact⟨-1,.of fun k=>by rw [spec_l04Cmp.f,if_neg (by omega),if_pos (by omega)],by omega,by omega⟩
    · have h:¬val a≤val b:=fun h=>absurd (len_le ha ta hb h) (by omega)
      exact⟨1,.of fun k=>by rw [spec_l04Cmp.f,if_neg (by omega),if_neg (by omega)],by omega,by omega⟩
end Go.Proofs.YtfcpjeeeddjakaaGreat.NatFnPlans

/- Functions that the theories name beside the law's own: plain Lean. -/
import Derived.Test.YtfcpjeeeddjakaaGreatSaidFnPlans
namespace Go.Proofs.YtfcpjeeeddjakaaGreat.F
open Go.RowKit YtfcpjeeeddjakaaGreatW.PrintWords YtfcpjeeeddjakaaGreatW.PrintLast YtfcpjeeeddjakaaGreatW.PrintMore Z
attribute [local go_sem] max2_int min2_int max_two min_two max_three min_three max_four min_four
set_option linter.unusedVariables false
set_option linter.unusedSimpArgs false
set_option maxRecDepth 100000
def impl_lengthText.l0:Nat→(List Int)→Int→Option (ByteArray)
  |0,_,_=>none
  |k+1,l14,x16=>(if 0<x16 then(if 1+l14.length≤140737488355328 then(lets (([(x16 % 256)]:List Int)++l14) fun y22=>(impl_lengthText.l0 k y22 (x16 / 256)))else none)else(if 1+l14.length≤140737488355328 then(lets (([((wrap64 (128+(l14.length:Int))) % 256)]:List Int)++l14) fun y27=>(some (strOfNums y27)))else none))
def impl_lengthText.f (k:Nat)(a0:Int):Option (ByteArray):=(if a0<128 then(some (strOfNums ([(a0 % 256)]:List Int)))else(impl_lengthText.l0 k [] a0))
mutual
def impl_IntItem.l0:Nat→(List Int)→Int→Option (S66)
  |0,_,_=>none
  |k+1,l19,x21=>(if 0<x21 then(if 1+l19.length≤140737488355328 then(lets (([(x21 % 256)]:List Int)++l19) fun y27=>(impl_IntItem.l0 k y27 (x21 / 256)))else none)else(if 0<(l19.length:Int)then(if 128≤(rd l19 0)then(if 1+l19.length≤140737488355328 then(lets (([0]:List Int)++l19) fun y35=>(some (⟨2,(strOfNums y35),([]:List S66)⟩:S66)))else none)else(some (⟨2,(strOfNums l19),([]:List S66)⟩:S66)))else none))
def impl_IntItem.l1:Nat→(List Int)→Int→Option (S66)
  |0,_,_=>none
  |k+1,l54,x56=>(if 0<x56 then(if 1+l54.length≤140737488355328 then(lets (([(x56 % 256)]:List Int)++l54) fun y62=>(impl_IntItem.l1 k y62 (x56 / 256)))else none)else(if 0<(l54.length:Int)then(if 128≤(rd l54 0)then(if 1+l54.length≤140737488355328 then(lets (([0]:List Int)++l54) fun y70=>(some (⟨2,(strOfNums y70),([]:List S66)⟩:S66)))else none)else(some (⟨2,(strOfNums l54),([]:List S66)⟩:S66)))else none))
end
def impl_IntItem.f (k:Nat)(a0:Int):Option (S66):=((impl_within.f a0 0 1000000000).bind fun t3=>(if t3=true then(impl_IntItem.l0 k ([(a0 % 256)]:List Int) (a0 / 256))else(impl_IntItem.l1 k ([0]:List Int) (0 / 256))))
mutual
def impl_copyItem.l0:Nat→(List S66)→Int→S66→Option (S66)
  |0,_,_,_=>none
  |k+1,l28,x30,a0=>(if x30<(a0.f2.length:Int)then(if 0≤x30 then(if x30<(a0.f2.length:Int)then((impl_copyItem.f k (rd_T66 a0.f2 x30)).bind fun t203001=>(if l28.length+1≤2932031007402 then(lets (l28++([t203001]:List S66)) fun y205999=>(impl_copyItem.l0 k y205999 (wrap64 (x30+1)) a0))else none))else none)else none)else(some (⟨a0.f0,a0.f1,l28⟩:S66)))
def impl_copyItem.f:Nat→S66→Option (S66)
  |0,_=>none
  |k+1,a0=>(impl_copyItem.l0 k [] 0 a0)
end
def impl_ListItem.l0:Nat→(List S66)→Int→(List S66)→Option (S66)
  |0,_,_,_=>none
  |k+1,l26,x28,a0=>(if x28<(a0.length:Int)then(if 0≤x28 then(if x28<(a0.length:Int)then((impl_copyItem.f k (rd_T66 a0 x28)).bind fun t203001=>(if l26.length+1≤2932031007402 then(lets (l26++([t203001]:List S66)) fun y205999=>(impl_ListItem.l0 k y205999 (wrap64 (x28+1)) a0))else none))else none)else none)else(some (⟨48,(⟨#[]⟩:ByteArray),l26⟩:S66)))
def impl_ListItem.f (k:Nat)(a0:(List S66)):Option (S66):=(impl_ListItem.l0 k [] 0 a0)
def impl_bytesIn.l0:Nat→Int→ByteArray→Int→Int→Option (Bool)
  |0,_,_,_,_=>none
  |k+1,x4,a0,a1,a2=>(if x4<(a0.size:Int)then(if 0≤x4 then(if x4<(a0.size:Int)then((impl_within.f (wrap64 (bt a0 x4)) a1 a2).bind fun t10=>(if t10=true then(impl_bytesIn.l0 k (wrap64 (x4+1)) a0 a1 a2)else(some false)))else none)else none)else(some true))
def impl_bytesIn.f (k:Nat)(a0:ByteArray)(a1:Int)(a2:Int):Option (Bool):=(impl_bytesIn.l0 k 0 a0 a1 a2)
mutual
def impl_itemOk.l0:Nat→Int→S66→Int→Option (Bool)
  |0,_,_,_=>none
  |k+1,x10,a0,a1=>(if x10<(a0.f2.length:Int)then(if 0≤x10 then(if x10<(a0.f2.length:Int)then((impl_itemOk.f k (rd_T66 a0.f2 x10) (wrap64 (a1+1))).bind fun t20=>(if t20=true then(impl_itemOk.l0 k (wrap64 (x10+1)) a0 a1)else(some false)))else none)else none)else(some true))
def impl_itemOk.f:Nat→S66→Int→Option (Bool)
  |0,_,_=>none
  |k+1,a0,a1=>(if a0.f0=48 then(if a0.f1.toList=([]:List UInt8)then(if 40<(a0.f2.length:Int)then(some false)else(if 6≤a1 then(some false)else(impl_itemOk.l0 k 0 a0 a1)))else(some false))else(if 0<(a0.f2.length:Int)then(some false)else(if a0.f0=1 then(if a0.f1.toList=([0]:List UInt8)then(some true)else(some (a0.f1.toList==([255]:List UInt8))))else(if a0.f0=2 then((impl_within.f (a0.f1.size:Int) 1 5).bind fun t27=>(if t27=true then(if 0<(a0.f1.size:Int)then(if(bt a0.f1 0)<128 then(if(bt a0.f1 0)=0 then(if(a0.f1.size:Int)=1 then(some true)else(if 1<(a0.f1.size:Int)then(some (decide (128≤(bt a0.f1 1))))else none))else(some true))else(some false))else none)else(some false)))else(if a0.f0=4 then(some true)else(if a0.f0=12 then((impl_bytesIn.f k a0.f1 32 126).bind fun t43=>(some t43))else(some false)))))))
end
mutual
def impl_itemText.l0:Nat→(List Int)→Int→S66→Option (ByteArray)
  |0,_,_,_=>none
  |k+1,l19,x21,a0=>(if x21<(a0.f2.length:Int)then(if 0≤x21 then(if x21<(a0.f2.length:Int)then((impl_itemText.f k (rd_T66 a0.f2 x21)).bind fun t31=>(if l19.length+t31.size≤140737488355328 then(lets (l19++bytesOf t31) fun y34=>(impl_itemText.l0 k y34 (wrap64 (x21+1)) a0))else none))else none)else none)else((impl_lengthText.f k ((strOfNums l19).size:Int)).bind fun t107001=>(if(strOfNums ([(a0.f0 % 256)]:List Int)).size+t107001.size≤9223372036854775807 then(if((strOfNums ([(a0.f0 % 256)]:List Int))++t107001).size+(strOfNums l19).size≤9223372036854775807 then(some (((strOfNums ([(a0.f0 % 256)]:List Int))++t107001)++(strOfNums l19)))else none)else none)))
def impl_itemText.f:Nat→S66→Option (ByteArray)
  |0,_=>none
  |k+1,a0=>(if a0.f0=48 then(impl_itemText.l0 k [] 0 a0)else((impl_lengthText.f k (a0.f1.size:Int)).bind fun t207001=>(if(strOfNums ([(a0.f0 % 256)]:List Int)).size+t207001.size≤9223372036854775807 then(if((strOfNums ([(a0.f0 % 256)]:List Int))++t207001).size+a0.f1.size≤9223372036854775807 then(some (((strOfNums ([(a0.f0 % 256)]:List Int))++t207001)++a0.f1))else none)else none)))
end
def impl_ItemOk.f (k:Nat)(a0:S66):Option (Bool):=((impl_itemOk.f k a0 0).bind fun t3=>(some t3))
def impl_ItemText.f (k:Nat)(a0:S66):Option (ByteArray×Bool):=((impl_ItemOk.f k a0).bind fun t3=>(if t3=true then((impl_itemText.f k a0).bind fun t6=>(if 4000<(t6.size:Int)then(some ((⟨#[]⟩:ByteArray),false))else(some (t6,true))))else(some ((⟨#[]⟩:ByteArray),false))))
end Go.Proofs.YtfcpjeeeddjakaaGreat.F

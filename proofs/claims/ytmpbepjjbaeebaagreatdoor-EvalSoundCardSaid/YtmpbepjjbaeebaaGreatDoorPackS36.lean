/- Parts of a proof: RPutP. -/
import Derived.ArgAppend
import Derived.Sort.Walk0
import Derived.Sort.KeysCollected
import Derived.Test.YtmpbepjjbaeebaaGreatDoorPackS2
import Derived.Test.YtmpbepjjbaeebaaGreatDoorPackS3
import Derived.Test.YtmpbepjjbaeebaaGreatDoorPackS6
set_option maxHeartbeats 8000000
set_option maxRecDepth 100000
set_option linter.unusedVariables false
set_option linter.unusedSimpArgs false
namespace Go.Proofs.YtmpbepjjbaeebaaGreatDoor
open Go Go.RowKit
def txt (s:ByteArray):List UInt8:=s.data.toList
section
variable {P:Program} {a:Act} {o:Oper} {w:World}
theorem zcd (s x:Operand) (t:TypeId)
  (ho:o.op= .call { callee:= .builtin .append,args:= #[s,x],argTypes:= #[t,t] })
  (base:Nat) (e:TypeId) (i:TypeInfo) (z:Value) (size bytes:Nat) (ht:P.underlying t= some (.slice e)) (hi:P.info? e= some i) (hz:i.zero= some z)
  (hsize:i.size= size) (hby:i.bytes= bytes) (hzs:z.cells.size= size) (hsz:0 < size)
  (v:Value) (n:Nat) (xs:List Value) (hs:a.eval s= v) (hown:w.ownsRow base e size v n xs)
  (A:Option Addr) (m c:Nat) (news:List Value) (hx:a.eval x= .slice A m c) (hl:news.length= m*size)
  (hr:0 < m->∃ ad,A= some ad/\∀ j u,news[j]?= some u->w.cell? (ad.add j)= some u) (h1:∀ u∈news,u.oneCell'= true)
  (h63:n+m<=maxLen) (hbytes:(n+m) *bytes<=140737488355328) (hbase:base<=w.heap.size):
  ∃ v' w',(execOp a.eval o).run P w= .ok (.value v') w'/\w'.ownsRow base e size v' (n+m) (xs ++ news)/\w.grownBy w' v.ownBlock:=by
 have key:∃ v' w',(Builtin.append_ #[t,t] o.type #[v,.slice A m c]).run P w= .ok v' w'/\w'.ownsRow base e size v' (n+m) (xs ++ news)/\w.grownBy w' v.ownBlock:=by
  rcases Nat.eq_zero_or_pos m with h0|h0
  ·subst h0
   have hn:news=[]:=List.eq_nil_of_length_eq_zero (by simpa using hl)
   subst hn
   cases A with
   |none=>exact⟨v,w,z2X w base t o.type e i size ht hi v n xs hown c,by simpa using hown,World.grownBy.refl w _⟩
   |some ad=>
    obtain⟨v',w',k1,k2,k3,_⟩:=run_append_own_at (P:=P) w base t o.type e i z size bytes ht hi hz hsize hby hzs hsz v n xs hown ad 0 c [] hl (fun j u hj=>by simp at hj) h1 h63 hbytes hbase
    exact⟨v',w',k1,k2,k3⟩
  ·obtain⟨ad,rfl,hc⟩:=hr h0
   obtain⟨v',w',k1,k2,k3,_⟩:=run_append_own_at (P:=P) w base t o.type e i z size bytes ht hi hz hsize hby hzs hsz v n xs hown ad m c news hl hc h1 h63 hbytes hbase
   exact⟨v',w',k1,k2,k3⟩
 obtain⟨v',w',hrun,k2,k3⟩:=key
 refine⟨v',w',?_,k2,k3⟩
 unfold execOp
 simp only[ho,resolve,invoke,builtin,Sem.run_bind,Sem.run_pure,Result.andThen_ok,List.map_toArray,List.map_cons,List.map_nil,hs,hx,hrun]
variable {ops:Array Oper} {S:World->Prop} {Q:Exit->Act->World->Prop} {i:Nat} {r:List (Nat × Bool)}
theorem z8Q (d:Option Tmp) (o:Oper) (s x:Operand) (t:TypeId) (hi0:ops[i]?= some o)
  (ho:o.op= .call { callee:= .builtin .append,args:= #[s,x],argTypes:= #[t,t] }) (hd:o.dst= d) (hw:Region.wanted o (yielded ops a.tmps)= true)
  (base:Nat) (e:TypeId) (j:TypeInfo) (z:Value) (size bytes:Nat) (ht:P.underlying t= some (.slice e)) (hi:P.info? e= some j) (hz:j.zero= some z)
  (hsize:j.size= size) (hby:j.bytes= bytes) (hzs:z.cells.size= size) (hsz:0 < size)
  (v:Value) (n:Nat) (xs:List Value) (hs:a.eval s= v) (hown:w.ownsRow base e size v n xs)
  (A:Option Addr) (m c:Nat) (news:List Value) (hx:a.eval x= .slice A m c) (hl:news.length= m*size)
  (hr:0 < m->∃ ad,A= some ad/\∀ j u,news[j]?= some u->w.cell? (ad.add j)= some u) (h1:∀ u∈news,u.oneCell'= true)
  (h63:n+m<=maxLen) (hbytes:(n+m) *bytes<=140737488355328) (hbase:base<=w.heap.size)
  (h:∀ v' w',w'.ownsRow base e size v' (n+m) (xs ++ news)->w.grownBy w' v.ownBlock->S w'/\wpOrd P ops S Q r (a.put d v') w'):wpOrd P ops S Q ((i,false)::r) a w:=by
 obtain⟨v',w',k1,k2,k3⟩:=zcd s x t ho base e j z size bytes ht hi hz hsize hby hzs hsz v n xs hs hown A m c news hx hl hr h1 h63 hbytes hbase
 obtain⟨h4,h5⟩:=h v' w' k2 k3
 exact z0I d v' w' o hi0 hd hw k1 h4 h5
end
end Go.Proofs.YtmpbepjjbaeebaaGreatDoor

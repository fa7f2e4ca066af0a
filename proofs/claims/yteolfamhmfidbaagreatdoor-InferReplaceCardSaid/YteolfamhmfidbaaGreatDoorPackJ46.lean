/- Parts of a proof: Awake1. -/
import Derived.LaidEqlPtr
import Derived.Test.YteolfamhmfidbaaGreatDoorPackJ44
set_option maxHeartbeats 8000000
set_option maxRecDepth 100000
set_option linter.unusedVariables false
set_option linter.unusedSimpArgs false
namespace Go.Proofs.YteolfamhmfidbaaGreatDoor
open Go.RowKit P
theorem zfR (k:Nat) (A:Option Addr) (l c:Nat) (ps:List (Int × Int)) (w:World) (hl:ps.length= l) (hp:Pairs w w.heap.size A ps) (h:makeE k ps= 0):
  Calls Tryz.prog 20 #[.int .i64 k,.slice A l c] w fun e w'=>e= .returned (.tuple #[.pointer (some ⟨w.heap.size,0,none⟩),.int .i64 0])/\LatR w' w.heap.size k (ordOf k ps)/\Below w.heap.size w w':=
 (zen k A l c ps w hl hp).mono fun e w' hm=>by
  rcases hm.2 with ⟨h1,_⟩|⟨_,k',h1,h2,h3⟩
  ·exact absurd h h1
  ·have e1:k'= k:=by omega
   rw[e1] at h3
   exact⟨h2,h3,hm.1⟩
def z4l:List (Int × Int)->List Value
 |[]=>[]
 |p::ps=> .int .i64 p.1:: .int .i64 p.2::z4l ps
theorem z7a:∀ {ps:List (Int × Int)} {i:Nat} {p:Int × Int},ps[i]?= some p->(z4l ps)[i*2]?= some (.int .i64 p.1)/\(z4l ps)[i*2+1]?= some (.int .i64 p.2)
 |[],i,p,h=>by simp at h
 |q::ps,0,p,h=>by simp at h;subst h;exact⟨rfl,rfl⟩
 |q::ps,i+1,p,h=>by
  have:=z7a (ps:=ps) (i:=i) (p:=p) (by simpa using h)
  rw[show(i+1) *2= i*2+1+1 by omega]
  exact this
def okPs (ps:List (Int × Int)):Prop:=∀ p,p∈ps->(Lit.int .i64 p.1).wf= true/\(Lit.int .i64 p.2).wf= true
theorem Pairs.new (w:World) (ps:List (Int × Int)) (cs:Array Value) (T:TypeId) (hc:cs=(z4l ps).toArray) (hw:okPs ps) (hl:ps.length<=9223372036854775807):
  Pairs (w.alloc (.cells cs T)) (w.alloc (.cells cs T)).heap.size (some ⟨w.heap.size,0,none⟩) ps:=by
 subst hc
 refine⟨hl,fun _=>⟨w.heap.size,0,rfl,by simp,fun i p hp=> ?_⟩⟩
 obtain⟨h1,h2⟩:=z7a hp
 obtain⟨h3,h4⟩:=hw p (List.mem_of_getElem? hp)
 refine⟨?_,?_,h3,h4⟩
 ·rw[z0t,Nat.zero_add,List.getElem?_toArray];exact h1
 ·rw[z0t,Nat.zero_add,List.getElem?_toArray];exact h2
theorem IntsAt.new (w:World) (l:List Int) (cs:Array Value) (T:TypeId) (hc:cs=(ints l).toArray) (hl:l.length<=9223372036854775807) (n c:Nat) (hn:l.length= n):
  IntsAt (w.alloc (.cells cs T)) (w.heap.size+1) (.slice (some ⟨w.heap.size,0,none⟩) n c) l:=by
 subst hc;subst hn
 refine⟨hl,_,c,rfl,fun _=>⟨w.heap.size,0,rfl,by omega,fun i x hx=> ?_⟩⟩
 rw[z0t,Nat.zero_add,List.getElem?_toArray]
 simp[ints,hx]
end Go.Proofs.YteolfamhmfidbaaGreatDoor

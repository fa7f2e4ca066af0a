/- Parts of a proof: KeepS. -/
import Derived.Test.YtmpbepjjbaeebaaGreatDoorPackS3
import Derived.Test.YtmpbepjjbaeebaaGreatDoorPackS7
import Derived.Test.YtmpbepjjbaeebaaGreatDoorPackS8
import Derived.Test.YtmpbepjjbaeebaaGreatDoorPackS22
set_option maxHeartbeats 8000000
set_option maxRecDepth 100000
set_option linter.unusedVariables false
set_option linter.unusedSimpArgs false
namespace Go.Proofs.YtmpbepjjbaeebaaGreatDoor
open Go Go.RowKit
def KeptS (p:Nat->Prop) (w:World) (v:Value) (ns:List ByteArray):Prop:=SlAt (only w p) w.heap.size 1 StrR v ns
theorem KeptS.to {p q:Nat->Prop} {w w':World} {v:Value} {ns:List ByteArray} (h:KeptS p w v ns) (hb:∀ b,p b->b < w.heap.size->q b/\w'.heap[b]?= w.heap[b]?) (hs:w.heap.size<=w'.heap.size):KeptS q w' v ns:=
 (SlAt.cells h (z4k hb) fun _ _ _ h=>h).more hs
theorem z0B {α:Type} {T:TypeId} {k base b:Nat} {enc:α->List Value} {w:World} {v:Value} {l:List α} (h:OwnSl T k enc w base v l) (hb:v.ownBlock= some b):b < w.heap.size:=by
 rcases h.2 with ⟨rfl,_⟩|⟨g,cap,cur,rfl,_,hg,_⟩
 ·cases hb
 ·have:g= b:=by simpa [Value.ownBlock] using hb
  subst this
  rcases Nat.lt_or_ge g w.heap.size with h2|h2
  ·exact h2
  ·rw[Array.getElem?_eq_none h2] at hg;cases hg
theorem z6j {w w':World} {v:Value} {ns:List ByteArray} (hs:∀ s∈ns,s.size<=maxLen) (hl:ns.length<=9223372036854775807) (h:w'.ownsRow w.heap.size 9 1 v ns.length (ns.map (Value.string))):KeptS (fun b=>w.heap.size<=b) w' v ns:=by
 refine⟨hl,?_⟩
 have h':OwnSl 9 1 (fun s:ByteArray=>[Value.string s]) w' w.heap.size v ns:=by
  have e:ns.map (Value.string)= flat (fun s:ByteArray=>[Value.string s]) ns:=by
   clear hs hl h
   induction ns with
   |nil=>rfl
   |cons a l ih=>
    show Value.string a::l.map (Value.string)= Value.string a::flat (fun s:ByteArray=>[Value.string s]) l
    rw[ih]
  unfold OwnSl
  rw[← e];exact h
 rcases h.2 with ⟨rfl,h0⟩|⟨g,cap,cur,hv,hg,_,_⟩
 ·exact⟨none,0,by rw[h0],fun h1=>by omega⟩
 ·refine⟨some ⟨g,0,none⟩,cap,hv,fun _=> ?_⟩
  have hown:v.ownBlock= some g:=by rw[hv];rfl
  refine⟨g,0,rfl,z0B h' hown,fun i x hx=>⟨[.string x],rfl,fun j u hu=> ?_,rfl,hs x (List.mem_of_getElem? hx)⟩⟩
  refine zu.2 ⟨hg,?_⟩
  have:=World.ownsRow.cells h' hown (i*1+j) u (z0K (enc:=fun s:ByteArray=>[Value.string s]) (fun _=>rfl) ns i x hx j u hu)
  rw[Addr.add_mid] at this
  rw[show 0+i*1+j= 0+ (i*1+j) by omega];exact this
theorem z4x (w:World) (vn:Value) (ns:List ByteArray) (h:SlAt w w.heap.size 1 StrR vn ns) (hl:ns.length*16<=reachBytes):
  Calls Tryz.prog 67 #[vn] w fun e w'=>∃ v',e= .returned v'/\Below w.heap.size w w'/\KeptS (fun b=>w.heap.size<=b) w' v' ns:=by
 obtain⟨h0,A,c,rfl,h1⟩:=h
 have hr:reachBytes= 140737488351232:=rfl
 rcases Nat.eq_zero_or_pos ns.length with hz|hz
 ·obtain rfl:ns=[]:=List.eq_nil_of_length_eq_zero hz
  cases A with
  |none=>exact(Tryz.slices_Clone_string_nil _ _ _).mono fun e u' h=>⟨_,h.1,by rw[h.2];exact Below.refl _ _,SlAt.nil _ _ _ _⟩
  |some ad=>exact(Tryz.slices_Clone_string_zero ad c w).mono fun e u' ⟨v',h1,h2,_,h3⟩=>⟨v',h1,h3,z6j (fun s hs=>by cases hs) (by simp) h2⟩
 ·obtain⟨b,o,rfl,hb,h2⟩:=h1 hz
  refine(Tryz.slices_Clone_string b o ns.length c ns w (Nat.le_refl _) (by omega) fun j hj=> ?_).mono fun e u' ⟨v',h5,h6,_,h7⟩=>⟨v',h5,h7,z6j (fun s hs=> ?_) h0 (by rwa [List.take_length] at h6)⟩
  ·obtain⟨cs,h3,h4,h5,h6⟩:=h2 j _ (List.getElem?_eq_getElem hj)
   subst h5
   have:=h4 0 _ rfl
   rw[Nat.mul_one,Nat.add_zero] at this
   rw[List.getD_eq_getElem?_getD,List.getElem?_eq_getElem hj]
   exact this
  ·obtain⟨i,hi⟩:=List.mem_iff_getElem?.1 hs
   obtain⟨cs,_,_,_,h6⟩:=h2 i s hi
   exact h6
end Go.Proofs.YtmpbepjjbaeebaaGreatDoor

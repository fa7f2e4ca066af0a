/- Parts of a proof: Ref, Lists. -/
import Derived.Deep.MidRow
import Derived.Test.YtpmjcbjdcjjplaaGreatDoorPackS17
set_option maxHeartbeats 8000000
set_option maxRecDepth 100000
set_option linter.unusedVariables false
set_option linter.unusedSimpArgs false
namespace Go.Proofs.YtpmjcbjdcjjplaaGreatDoor
section
open Go.RowKit P
def rl (n:Nat) (L:Rel):List Value:= .int .i64 n::(List.range 64).map fun i=> .bool (L (i / 8) (i % 8))
def rv (n:Nat) (L:Rel):Array Value:=(rl n L).toArray
theorem z92 (n:Nat) (L:Rel):(rl n L).length= 65:=by simp[rl]
theorem zat (n:Nat) (L:Rel):(rl n L)[0]?= some (.int .i64 n):=rfl
theorem rl_at (n:Nat) (L:Rel) (i j:Nat) (hi:i < 8) (hj:j < 8):(rl n L)[1+i*8+j]?= some (.bool (L i j)):=by
 unfold rl;rw[show 1+i*8+j=(i*8+j)+1 by omega,List.getElem?_cons_succ,List.getElem?_map,List.getElem?_range (by omega)];simp only[Option.map_some,Option.some.injEq,Value.bool.injEq];rw[show(i*8+j) / 8= i by omega,show(i*8+j) % 8= j by omega]
structure Rm (w:World) (b n:Nat) (L:Rel):Prop where
 cn:w.cell? ⟨b,0,none⟩= some (.int .i64 n)
 cl:∀ i j,i < 8->j < 8->w.cell? ⟨b,1+i*8+j,none⟩= some (.bool (L i j))
 fz:∀ i,w.frozen? ⟨b,i,none⟩= false
section
variable {w w':World} {b n:Nat} {L:Rel}
theorem Rm.range (h:Rm w b n L):w.rangeAt b 0 (rl n L):=by
 intro j v g;have A:j < 65:=by have:=(List.getElem?_eq_some_iff.1 g).1;rw[z92] at this;exact this
 by_cases h0:j= 0
 ·subst h0;rw[zat] at g;rw[h.cn];exact g
 ·have e:j= 1+ (j - 1) / 8*8+ (j - 1) % 8:=by omega
  rw[e] at g;rw[rl_at n L _ _ (by omega) (by omega)] at g;rw[← g,← h.cl _ _ (show(j - 1) / 8 < 8 by omega) (show(j - 1) % 8 < 8 by omega),Nat.zero_add,← e]
theorem Rm.of_range (h:w.rangeAt b 0 (rl n L)) (hf:∀ i,w.frozen? ⟨b,i,none⟩= false):Rm w b n L:=
 ⟨by simpa using h 0 _ (zat n L),fun i j hi hj=>by simpa using h _ _ (rl_at n L i j hi hj),hf⟩
theorem Rm.there (h:Rm w b n L):w.there b 0 65:=by
 intro j hj;refine⟨?_,h.fz _⟩;have hv:=List.getElem?_eq_getElem (l:=rl n L) (i:=j) (by rw[z92];exact hj);rw[h.range j _ hv];rfl
theorem Rm.new (w:World) (n:Nat) (L:Rel) (T:TypeId):Rm (w.alloc (.cells (rv n L) T)) w.heap.size n L:=
 ⟨by rw[z1G];simp[rv,rl],fun i j hi hj=>by rw[z1G];unfold rv;rw[List.getElem?_toArray];exact rl_at n L i j hi hj,fun i=>z61 _ _ _ _⟩
theorem Rm.keep (h:Rm w b n L) (hc:∀ o,w'.cell? ⟨b,o,none⟩= w.cell? ⟨b,o,none⟩) (hf:∀ o,w'.frozen? ⟨b,o,none⟩= w.frozen? ⟨b,o,none⟩):Rm w' b n L:=
 ⟨(hc _).trans h.cn,fun i j hi hj=>(hc _).trans (h.cl i j hi hj),fun i=>(hf _).trans (h.fz i)⟩
theorem Rm.below {B:Nat} (h:Rm w b n L) (hb:Below B w w') (hB:b < B):Rm w' b n L:=
 h.keep (fun o=>hb.cell (p:=⟨b,o,none⟩) hB) (fun o=>hb.frozen (p:=⟨b,o,none⟩) hB)
theorem Rm.drew (h:Rm w b n L):Rm w.drew b n L:=h.keep (fun _=>rfl) (fun _=>rfl)
theorem Rm.drewN (h:Rm w b n L) (k:Nat):Rm (w.drewN k) b n L:=h.keep (fun _=>rfl) (fun _=>rfl)
theorem Rm.set (h:Rm w b n L) {i j:Nat} (hi:i < 8) (hj:j < 8) (v:Bool):Rm (w.setCell ⟨b,1+i*8+j,none⟩ (.bool v)) b n (upd2 L i j v):=by
 refine⟨?_,fun k l hk hl=> ?_,fun k=>by rw[z1V];exact h.fz k⟩
 ·rw[zL _ _ _ _ _ (by omega)];exact h.cn
 ·by_cases e:k= i/\l= j
  ·obtain⟨rfl,rfl⟩:=e;rw[z2u _ _ _ _ _ (h.cl k l hk hl)];simp[upd2]
  ·rw[zL _ _ _ _ _ (by omega),h.cl k l hk hl];simp only[upd2,if_neg e]
theorem Rm.setCells (h:Rm w b n L) (n':Nat) (L':Rel):Rm (w.setCells b 0 (rl n' L')) b n' L':=
 Rm.of_range (World.rangeAt_setCells_same w b 0 (rl n' L') (by rw[z92];exact h.there)) fun i=>by rw[World.frozen?_setCells];exact h.fz i
theorem Rm.congr {M:Rel} (h:Rm w b n L) (hc:∀ i j,i < 8->j < 8->L i j= M i j):Rm w b n M:=
 ⟨h.cn,fun i j hi hj=>by rw[h.cl i j hi hj,hc i j hi hj],h.fz⟩
end
end
section
open Go.RowKit P
def IntsAt (w:World) (B:Nat) (v:Value) (l:List Int):Prop:=
 l.length<=9223372036854775807/\∃ A c,v= .slice A l.length c/\(0 < l.length->∃ b o,A= some ⟨b,o,none⟩/\b < B/\∀ (i:Nat) x,l[i]?= some x->w.cell? ⟨b,o+i,none⟩= some (.int .i64 x))
section
variable {w w':World} {B:Nat} {v:Value} {l:List Int}
theorem IntsAt.keep (h:IntsAt w B v l) (hc:∀ p:Addr,p.block < B->w'.cell? p= w.cell? p):IntsAt w' B v l:=by
 obtain⟨h0,A,c,rfl,h1⟩:=h;refine⟨h0,A,c,rfl,fun hp=> ?_⟩;obtain⟨b,o,rfl,hb,h2⟩:=h1 hp;exact⟨b,o,rfl,hb,fun i x hx=>(hc ⟨b,o+i,none⟩ hb).trans (h2 i x hx)⟩
theorem IntsAt.below (h:IntsAt w B v l) (hb:Below B w w'):IntsAt w' B v l:=h.keep fun _ hp=>hb.cell hp
theorem IntsAt.drewN (h:IntsAt w B v l) (k:Nat):IntsAt (w.drewN k) B v l:=h
theorem IntsAt.more {B':Nat} (h:IntsAt w B v l) (hB:B<=B'):IntsAt w B' v l:=by
 obtain⟨h0,A,c,rfl,h1⟩:=h;refine⟨h0,A,c,rfl,fun hp=> ?_⟩;obtain⟨b,o,rfl,hb,h2⟩:=h1 hp;exact⟨b,o,rfl,by omega,h2⟩
theorem OwnInts.mono {base base':Nat} (h:OwnInts w base v l) (hb:base'<=base):OwnInts w base' v l:=by
 refine⟨h.1,?_⟩;rcases h.2 with h1|⟨g,cap,cur,h1,h2,h3⟩
 ·exact .inl h1
 ·exact .inr ⟨g,cap,cur,h1,by omega,h3⟩
end
end
end Go.Proofs.YtpmjcbjdcjjplaaGreatDoor

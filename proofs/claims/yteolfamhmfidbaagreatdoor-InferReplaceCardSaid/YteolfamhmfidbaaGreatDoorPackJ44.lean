/- Parts of a proof: Ref, Lists, Label, RefClose, RefMake. -/
import Derived.Deep.MidRow
import Derived.Test.YteolfamhmfidbaaGreatDoorPackJ43
set_option maxHeartbeats 8000000
set_option maxRecDepth 100000
set_option linter.unusedVariables false
set_option linter.unusedSimpArgs false
namespace Go.Proofs.YteolfamhmfidbaaGreatDoor
section
open Go.RowKit P
def rl (n:Nat) (L:Rel):List Value:= .int .i64 n::(List.range 64).map fun i=> .bool (L (i / 8) (i % 8))
def rv (n:Nat) (L:Rel):Array Value:=(rl n L).toArray
theorem z7O (n:Nat) (L:Rel):(rl n L).length= 65:=by simp[rl]
theorem za0 (n:Nat) (L:Rel):(rl n L)[0]?= some (.int .i64 n):=rfl
theorem rl_at (n:Nat) (L:Rel) (i j:Nat) (hi:i < 8) (hj:j < 8):(rl n L)[1+i*8+j]?= some (.bool (L i j)):=by
 unfold rl
 rw[show 1+i*8+j=(i*8+j)+1 by omega,List.getElem?_cons_succ,List.getElem?_map,List.getElem?_range (by omega)]
 simp only[Option.map_some,Option.some.injEq,Value.bool.injEq]
 rw[show(i*8+j) / 8= i by omega,show(i*8+j) % 8= j by omega]
structure Rm (w:World) (b n:Nat) (L:Rel):Prop where
 cn:w.cell? ⟨b,0,none⟩= some (.int .i64 n)
 cl:∀ i j,i < 8->j < 8->w.cell? ⟨b,1+i*8+j,none⟩= some (.bool (L i j))
 fz:∀ i,w.frozen? ⟨b,i,none⟩= false
section
variable {w w':World} {b n:Nat} {L:Rel}
theorem Rm.range (h:Rm w b n L):w.rangeAt b 0 (rl n L):=by
 intro j v hv
 have hj:j < 65:=by have:=(List.getElem?_eq_some_iff.1 hv).1;rw[z7O] at this;exact this
 by_cases h0:j= 0
 ·subst h0;rw[za0] at hv;rw[h.cn];exact hv
 ·have e:j= 1+ (j - 1) / 8*8+ (j - 1) % 8:=by omega
  rw[e] at hv
  rw[rl_at n L _ _ (by omega) (by omega)] at hv
  rw[← hv,← h.cl _ _ (show(j - 1) / 8 < 8 by omega) (show(j - 1) % 8 < 8 by omega),Nat.zero_add,← e]
theorem Rm.of_range (h:w.rangeAt b 0 (rl n L)) (hf:∀ i,w.frozen? ⟨b,i,none⟩= false):Rm w b n L:=
 ⟨by simpa using h 0 _ (za0 n L),fun i j hi hj=>by simpa using h _ _ (rl_at n L i j hi hj),hf⟩
theorem Rm.there (h:Rm w b n L):w.there b 0 65:=by
 intro j hj
 refine⟨?_,h.fz _⟩
 have hv:=List.getElem?_eq_getElem (l:=rl n L) (i:=j) (by rw[z7O];exact hj)
 rw[h.range j _ hv];rfl
theorem Rm.new (w:World) (n:Nat) (L:Rel) (T:TypeId):Rm (w.alloc (.cells (rv n L) T)) w.heap.size n L:=
 ⟨by rw[z0t];simp[rv,rl],fun i j hi hj=>by rw[z0t];unfold rv;rw[List.getElem?_toArray];exact rl_at n L i j hi hj,fun i=>z5E _ _ _ _⟩
theorem Rm.keep (h:Rm w b n L) (hc:∀ o,w'.cell? ⟨b,o,none⟩= w.cell? ⟨b,o,none⟩) (hf:∀ o,w'.frozen? ⟨b,o,none⟩= w.frozen? ⟨b,o,none⟩):Rm w' b n L:=
 ⟨(hc _).trans h.cn,fun i j hi hj=>(hc _).trans (h.cl i j hi hj),fun i=>(hf _).trans (h.fz i)⟩
theorem Rm.below {B:Nat} (h:Rm w b n L) (hb:Below B w w') (hB:b < B):Rm w' b n L:=
 h.keep (fun o=>hb.cell (p:=⟨b,o,none⟩) hB) (fun o=>hb.frozen (p:=⟨b,o,none⟩) hB)
theorem Rm.drew (h:Rm w b n L):Rm w.drew b n L:=h.keep (fun _=>rfl) (fun _=>rfl)
theorem Rm.drewN (h:Rm w b n L) (k:Nat):Rm (w.drewN k) b n L:=h.keep (fun _=>rfl) (fun _=>rfl)
theorem Rm.set (h:Rm w b n L) {i j:Nat} (hi:i < 8) (hj:j < 8) (v:Bool):Rm (w.setCell ⟨b,1+i*8+j,none⟩ (.bool v)) b n (upd2 L i j v):=by
 refine⟨?_,fun k l hk hl=> ?_,fun k=>by rw[z0F];exact h.fz k⟩
 ·rw[zC _ _ _ _ _ (by omega)];exact h.cn
 ·by_cases e:k= i/\l= j
  ·obtain⟨rfl,rfl⟩:=e;rw[z1T _ _ _ _ _ (h.cl k l hk hl)];simp[upd2]
  ·rw[zC _ _ _ _ _ (by omega),h.cl k l hk hl];simp only[upd2,if_neg e]
theorem Rm.setCells (h:Rm w b n L) (n':Nat) (L':Rel):Rm (w.setCells b 0 (rl n' L')) b n' L':=
 Rm.of_range (World.rangeAt_setCells_same w b 0 (rl n' L') (by rw[z7O];exact h.there)) fun i=>by rw[World.frozen?_setCells];exact h.fz i
theorem Rm.congr {M:Rel} (h:Rm w b n L) (hc:∀ i j,i < 8->j < 8->L i j= M i j):Rm w b n M:=
 ⟨h.cn,fun i j hi hj=>by rw[h.cl i j hi hj,hc i j hi hj],h.fz⟩
end
end
section
open Go.RowKit P
def IntsAt (w:World) (B:Nat) (v:Value) (l:List Int):Prop:=
 l.length<=9223372036854775807/\∃ A c,v= .slice A l.length c/\(0 < l.length->∃ b o,A= some ⟨b,o,none⟩/\b < B/\∀ (i:Nat) x,l[i]?= some x->w.cell? ⟨b,o+i,none⟩= some (.int .i64 x))
section
variable {w w':World} {B:Nat} {v:Value} {l:List Int}
theorem IntsAt.keep (h:IntsAt w B v l) (hc:∀ p:Addr,p.block < B->w'.cell? p= w.cell? p):IntsAt w' B v l:=by
 obtain⟨h0,A,c,rfl,h1⟩:=h
 refine⟨h0,A,c,rfl,fun hp=> ?_⟩
 obtain⟨b,o,rfl,hb,h2⟩:=h1 hp
 exact⟨b,o,rfl,hb,fun i x hx=>(hc ⟨b,o+i,none⟩ hb).trans (h2 i x hx)⟩
theorem IntsAt.below (h:IntsAt w B v l) (hb:Below B w w'):IntsAt w' B v l:=h.keep fun _ hp=>hb.cell hp
theorem IntsAt.drewN (h:IntsAt w B v l) (k:Nat):IntsAt (w.drewN k) B v l:=h
theorem IntsAt.more {B':Nat} (h:IntsAt w B v l) (hB:B<=B'):IntsAt w B' v l:=by
 obtain⟨h0,A,c,rfl,h1⟩:=h
 refine⟨h0,A,c,rfl,fun hp=> ?_⟩
 obtain⟨b,o,rfl,hb,h2⟩:=h1 hp
 exact⟨b,o,rfl,by omega,h2⟩
theorem OwnInts.mono {base base':Nat} (h:OwnInts w base v l) (hb:base'<=base):OwnInts w base' v l:=by
 refine⟨h.1,?_⟩
 rcases h.2 with h1|⟨g,cap,cur,h1,h2,h3⟩
 ·exact .inl h1
 ·exact .inr ⟨g,cap,cur,h1,by omega,h3⟩
end
end
section
open Go.RowKit P
def allL (n:Nat) (l:List Int):Bool:=l.all (isL n)
def foldJ (n:Nat) (L:Rel) (x:Nat) (l:List Int):Nat:=l.foldl (fun x a=>jj n L x a.toNat) x
theorem zaW (n:Nat) (L:Rel) (x:Nat) (l:List Int) (a:Int):foldJ n L x (l ++ [a])= jj n L (foldJ n L x l) a.toNat:=by simp[foldJ,List.foldl_append]
theorem z8V {n:Nat} {L:Rel} (h:Lat n L):∀ (l:List Int) (x:Nat),x < n->allL n l= true->foldJ n L x l < n
 |[],x,hx,_=>hx
 |a::l,x,hx,ha=>by
  simp only[allL,List.all_cons,Bool.and_eq_true] at ha
  obtain⟨y,rfl,hy⟩:=z0G ha.1
  exact z8V h l _ (h.jj_lt hx (by simpa using hy)) ha.2
theorem zcL {n:Nat} {l:List Int} {i:Nat} {a:Int} (h:l[i]?= some a) (h1:allL n (l.take i)= true):allL n (l.take (i+1))= isL n a:=by
 rw[z2F h];unfold allL at*;rw[List.all_append,h1];simp
theorem zfC {n:Nat} {l:List Int} {i:Nat} {a:Int} (h:l[i]?= some a) (h1:isL n a= false):allL n l= false:=by
 cases e:allL n l with
 |false=>rfl
 |true=>unfold allL at e;rw[List.all_eq_true] at e;rw[e a (List.mem_of_getElem? h)] at h1;cases h1
def foldV (n:Nat) (L:Rel) (x:Nat) (l:List Int):Value:=if allL n l then .tuple #[.int .i64 (foldJ n L x l),.int .i64 0] else .tuple #[.int .i64 0,.int .i64 3]
theorem z7l {n:Nat} {L:Rel} {x:Nat} {l:List Int} (h:allL n l= true):foldV n L x l= .tuple #[.int .i64 (foldJ n L x l),.int .i64 0]:=by unfold foldV;rw[if_pos h]
theorem zdk {n:Nat} {L:Rel} {x:Nat} {l:List Int} (h:allL n l= false):foldV n L x l= .tuple #[.int .i64 0,.int .i64 3]:=by unfold foldV;rw[h];rfl
theorem zcx (b n:Nat) (L:Rel) (x:Nat) (v:Value) (l:List Int) (B:Nat) (w:World) (hx:x < n) (hlat:LatR w b n L) (hl:IntsAt w B v l):
  Calls Tryz.prog 58 #[.pointer (some ⟨b,0,none⟩),.int .i64 x,v,.func (.func 60) #[.pointer (some ⟨b,0,none⟩)] #[]] w fun e w'=>e= .returned (foldV n L x l)/\w= w':=by
 obtain⟨hlen,A,c,rfl,hcell⟩:=hl
 have HC:=I hcell
 have HL:=I hlat
 clear hcell hlat
 go_enter Tryz.func58,Tryz.ntmps58
 go_wp2
 go_loopg [1,16] l.length (fun g y i wr=>∃ k:Nat,k+g= l.length/\i= .int .i64 k/\y= .int .i64 (foldJ n L x (l.take k))/\allL n (l.take k)= true/\wr= w)
 case atStart=>exact⟨0,by omega,rfl,rfl,rfl,rfl⟩
 case round=>
  obtain⟨k,hk,rfl,rfl,hall,rfl⟩:=hrel
  have HA:=I hall
  cases gk with
  |zero=>
   have hge: ¬ ((k:Int) <(l.length:Int)):=by omega
   clear hall
   have HV:Hid (foldV n L x l= .tuple #[.int .i64 (foldJ n L x (l.take k)),.int .i64 0]):=by
    refine I ?_
    have h1:=HA.o
    rw[List.take_of_length_le (by omega)] at h1 ⊢
    exact z7l h1
   go_wp2
   go_ret2
   exact⟨by rw[HV.o];rfl,rfl⟩
  |succ g=>
   have hlt:(k:Int) <(l.length:Int):=by omega
   obtain⟨a,ha⟩:∃ a,l[k]?= some a:=⟨_,List.getElem?_eq_getElem (by omega)⟩
   obtain⟨bb,o,rfl,_,hc⟩:=HC.o (by omega)
   have d:=hc k a ha
   have HT:=I (z2F ha)
   have HAN:=I (zcL ha hall)
   have HNO:=I (fun h=>zdk (L:=L) (x:=x) (zfC (n:=n) ha h))
   have HF:=I (z8V HL.o.lat _ x hx hall)
   clear hc ha hall
   cases hla:isL n a with
   |false=>
    have q1:tabE n (foldJ n L x (l.take k):Nat) a= 3:=by unfold tabE;rw[hla];simp
    have HV:=I (HNO.o hla)
    clear hla
    go_wp2_with (go_at_call 60;refine(zco HL.o _ _).mono ?_;rintro e w' ⟨rfl,rfl⟩)
    go_ret2
    exact⟨by rw[HV.o];rfl,rfl⟩
   |true=>
    have HLA:=I hla
    obtain⟨y,rfl,hy⟩:=z0G hla
    have q1:tabE n (foldJ n L x (l.take k):Nat) y= 0:=by unfold tabE;rw[hla,z1u HF.o];rfl
    have q2:jnI n L (foldJ n L x (l.take k):Nat) y= jj n L (foldJ n L x (l.take k)) y:=by unfold jnI;rw[z1u HF.o,z1u hy];simp
    clear hla
    go_wp2_with (go_at_call 60;refine(zco HL.o _ _).mono ?_;rintro e w' ⟨rfl,rfl⟩)
    go_roundg g
    case measure=>omega
    case rel=>exact⟨k+1,by omega,by go_num,by rw[HT.o,zaW];rfl,by rw[HAN.o];exact HLA.o,rfl⟩
theorem zdb (n:Nat) (L:Rel) (x:Nat) (l:List Int):∃ u v:Int,foldV n L x l= .tuple #[.int .i64 u,.int .i64 v]:=by
 unfold foldV;split
 ·exact⟨_,_,rfl⟩
 ·exact⟨_,_,rfl⟩
theorem zbB (b n:Nat) (L:Rel) (v:Value) (l:List Int) (B:Nat) (w:World) (hlat:LatR w b n L) (hl:IntsAt w B v l):
  Calls Tryz.prog 31 #[.pointer (some ⟨b,0,none⟩),v] w fun e w'=>e= .returned (foldV n L (bot n L) l)/\∃ m,w'= w.drewN m:=by
 have HL:=I hlat
 have HI:=I hl
 obtain⟨u,t,huv⟩:=zdb n L (bot n L) l
 have HUV:=I huv
 clear hlat hl huv
 go_enter Tryz.func31,Tryz.ntmps31
 go_wp2_with (first|(go_at_call 59;refine(zec HL.o).mono ?_;rintro e w' ⟨rfl,m,rfl⟩)|(go_at_call 58;refine(zcx b n L (bot n L) v l B _ HL.o.lat.bot_lt (HL.o.drewN _) (HI.o.drewN _)).mono ?_;rintro e w' ⟨rfl,rfl⟩;rw[HUV.o]))
 go_ret2
 exact⟨by rw[HUV.o];rfl,_,rfl⟩
end
section
open Go.RowKit P
def step3 (R:Rel) (a b c:Nat):Rel:=if R a b && R b c then upd2 R a c true else R
theorem z6V {R:Rel} {a b c x y:Nat}:step3 R a b c x y= true↔R x y= true\/(R a b= true/\R b c= true/\x= a/\y= c):=by
 unfold step3
 cases h1:R a b<;>cases h2:R b c<;>simp
 unfold upd2
 by_cases e:x= a/\y= c
 ·obtain⟨rfl,rfl⟩:=e;simp
 ·rw[if_neg e]
  constructor
  ·exact fun h=> .inl h
  ·rintro(h|h)
   ·exact h
   ·exact absurd h e
theorem zbp (R:Rel) (a b c:Nat):Sub R (step3 R a b c):=fun _ _ h=>z6V.2 (.inl h)
theorem ze0 {R T:Rel} (a b c:Nat) (h:Sub R T) (hT:Trans T):Sub (step3 R a b c) T:=by
 intro x y hxy
 rcases z6V.1 hxy with h1|⟨h1,h2,rfl,rfl⟩
 ·exact h x y h1
 ·exact hT x b y (h x b h1) (h b y h2)
theorem z6t {B:Nat} {u w:World} (h:Below B u w) {b:Nat} (hb:B<=b) (vs:List Value):∀ o,Below B u (w.setCells b o vs):=by
 induction vs generalizing w with
 |nil=>intro o;exact h
 |cons v vs ih=>intro o;exact ih (h.setCell (p:=⟨b,o,none⟩) hb v) (o+1)
theorem Rm.far {w:World} {b n:Nat} {L:Rel} (h:Rm w b n L) {b':Nat} (hb:b≠b') (vs:List Value):∀ o,Rm (w.setCells b' o vs) b n L:=by
 induction vs generalizing w with
 |nil=>intro o;exact h
 |cons v vs ih=>
  intro o
  refine ih (w:=w.setCell ⟨b',o,none⟩ v) (h.keep (fun p=>World.cell?_setCell_other w _ _ v (fun e=>hb (by injection e with e1 _ _;exact e1.symm))) fun p=>z0F _ _ _ _) (o+1)
theorem z7A (b:Nat) (vs:List Value):∀ (o:Nat) (w:World),(w.setCells b o vs).heap.size= w.heap.size:=by
 induction vs with
 |nil=>intro o w;rfl
 |cons v vs ih=>intro o w;exact(ih (o+1) (w.setCell ⟨b,o,none⟩ v)).trans (z2n _ _ _)
theorem Rm.setCell_far {w:World} {b n:Nat} {L:Rel} (h:Rm w b n L) {p:Addr} (hb:b≠p.block) (v:Value):Rm (w.setCell p v) b n L:=
 h.keep (fun o=>World.cell?_setCell_other w _ _ v (fun e=>hb (by rw[e]))) fun o=>z0F _ _ _ _
structure Cl (wr w:World) (n:Nat) (S R0 R:Rel) (k:Nat):Prop where
 m:Rm wr w.heap.size n R
 b:Below w.heap.size w wr
 m2:∃ n' L',Rm wr (w.heap.size+1) n' L'
 lo:Sub (clo S k) R0
 sub:Sub R0 R
 up:Sub R (clo S n)
theorem Cl.step {wr w:World} {n:Nat} {S R0 R:Rel} {k:Nat} (h:Cl wr w n S R0 R k) (hd:Dom n S) {a b c:Nat} (ha:a < 8) (hc:c < 8) (hab:R a b= true) (hbc:R b c= true):
  Cl (wr.setCell ⟨w.heap.size,1+a*8+c,none⟩ (.bool true)) w n S R0 (step3 R a b c) k:=by
 refine⟨?_,h.b.setCell (Nat.le_refl _) _,?_,h.lo,fun x y hxy=>zbp _ _ _ _ _ _ (h.sub x y hxy),ze0 _ _ _ h.up (z6Z hd)⟩
 ·have:=h.m.set ha hc true
  unfold step3;rw[hab,hbc];exact this
 ·obtain⟨n',L',h2⟩:=h.m2
  exact⟨n',L',h2.setCell_far (by simp) _⟩
end
section
open Go.RowKit P
structure Rk (wr w:World) (n:Nat) (R:Rel):Prop where
 m1:∃ n' L',Rm wr w.heap.size n' L'
 m:Rm wr (w.heap.size+1) n R
 b:Below w.heap.size w wr
 s:w.heap.size+1 < wr.heap.size
theorem Rk.set {wr w:World} {n:Nat} {R:Rel} (h:Rk wr w n R) {i j:Nat} (hi:i < 8) (hj:j < 8):Rk (wr.setCell ⟨w.heap.size+1,1+i*8+j,none⟩ (.bool true)) w n (upd2 R i j true):=by
 obtain⟨n',L',h1⟩:=h.m1
 exact⟨⟨n',L',h1.setCell_far (by simp) _⟩,h.m.set hi hj true,h.b.setCell (by simp) _,by rw[z2n];exact h.s⟩
theorem Rk.below {wr w w1:World} {n:Nat} {R:Rel} (h:Rk wr w n R) (hb:Below wr.heap.size wr w1):Rk w1 w n R:=by
 obtain⟨n',L',h1⟩:=h.m1
 have:=h.s
 exact⟨⟨n',L',h1.below hb (by omega)⟩,h.m.below hb h.s,h.b.trans (hb.mono (by omega)),by have:=hb.size;omega⟩
theorem Rk.drewN {wr w:World} {n:Nat} {R:Rel} (h:Rk wr w n R) (k:Nat):Rk (wr.drewN k) w n R:=by
 obtain⟨n',L',h1⟩:=h.m1
 exact⟨⟨n',L',h1.drewN k⟩,h.m.drewN k,zr h.b k,h.s⟩
theorem Rk.store {wr w:World} {n:Nat} {R:Rel} (h:Rk wr w n R) (n2:Nat) (R2:Rel):Rk (wr.setCells (w.heap.size+1) 0 (rl n2 R2)) w n2 R2:=by
 obtain⟨n',L',h1⟩:=h.m1
 exact⟨⟨n',L',h1.far (by omega) _ _⟩,h.m.setCells n2 R2,z6t h.b (by omega) _ _,by rw[z7A];exact h.s⟩
theorem Rk.congr {wr w:World} {n:Nat} {R M:Rel} (h:Rk wr w n R) (hc:∀ i j,i < 8->j < 8->R i j= M i j):Rk wr w n M:=⟨h.m1,h.m.congr hc,h.b,h.s⟩
end
end Go.Proofs.YteolfamhmfidbaaGreatDoor

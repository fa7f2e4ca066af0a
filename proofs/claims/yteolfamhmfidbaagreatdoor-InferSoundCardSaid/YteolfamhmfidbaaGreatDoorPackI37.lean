/- Parts of a proof: Ref, Ref2, RefClose, RefMake, Lists, Label. -/
import Derived.Deep.MidRow
import Derived.Test.YteolfamhmfidbaaGreatDoorPackI9
set_option maxHeartbeats 8000000
set_option maxRecDepth 100000
set_option linter.unusedVariables false
set_option linter.unusedSimpArgs false
namespace Go.Proofs.YteolfamhmfidbaaGreatDoor
section
open Go.RowKit P
def rl (n:Nat) (L:Rel):List Value:= .int .i64 n::(List.range 64).map fun i=> .bool (L (i / 8) (i % 8))
def rv (n:Nat) (L:Rel):Array Value:=(rl n L).toArray
theorem z2a (n:Nat) (L:Rel):(rl n L).length= 65:=by simp[rl]
theorem z3e (n:Nat) (L:Rel):(rv n L).size= 65:=by simp[rv,rl]
theorem z9W (n:Nat) (L:Rel):(rl n L)[0]?= some (.int .i64 n):=rfl
theorem rl_at (n:Nat) (L:Rel) (i j:Nat) (hi:i < 8) (hj:j < 8):(rl n L)[1+i*8+j]?= some (.bool (L i j)):=by
 unfold rl
 rw[show 1+i*8+j=(i*8+j)+1 by omega,List.getElem?_cons_succ,List.getElem?_map,List.getElem?_range (by omega)]
 simp only[Option.map_some,Option.some.injEq,Value.bool.injEq]
 rw[show(i*8+j) / 8= i by omega,show(i*8+j) % 8= j by omega]
theorem zh4 (n:Nat) (L:Rel):∀ v∈rl n L,v.oneCell'= true:=by
 intro v hv
 unfold rl at hv
 rw[List.mem_cons,List.mem_map] at hv
 rcases hv with rfl|⟨i,_,rfl⟩<;>rfl
theorem zbK (n:Nat) (L:Rel):(rv n L).all (·.oneCell')= true:=all_oneCell_toArray (zh4 n L)
structure Rm (w:World) (b n:Nat) (L:Rel):Prop where
 cn:w.cell? ⟨b,0,none⟩= some (.int .i64 n)
 cl:∀ i j,i < 8->j < 8->w.cell? ⟨b,1+i*8+j,none⟩= some (.bool (L i j))
 fz:∀ i,w.frozen? ⟨b,i,none⟩= false
section
variable {w w':World} {b n:Nat} {L:Rel}
theorem Rm.range (h:Rm w b n L):w.rangeAt b 0 (rl n L):=by
 intro j v hv
 have hj:j < 65:=by have:=(List.getElem?_eq_some_iff.1 hv).1;rw[z2a] at this;exact this
 by_cases h0:j= 0
 ·subst h0;rw[z9W] at hv;rw[h.cn];exact hv
 ·have e:j= 1+ (j - 1) / 8*8+ (j - 1) % 8:=by omega
  rw[e] at hv
  rw[rl_at n L _ _ (by omega) (by omega)] at hv
  rw[← hv,← h.cl _ _ (show(j - 1) / 8 < 8 by omega) (show(j - 1) % 8 < 8 by omega),Nat.zero_add,← e]
theorem Rm.of_range (h:w.rangeAt b 0 (rl n L)) (hf:∀ i,w.frozen? ⟨b,i,none⟩= false):Rm w b n L:=
 ⟨by simpa using h 0 _ (z9W n L),fun i j hi hj=>by simpa using h _ _ (rl_at n L i j hi hj),hf⟩
theorem Rm.there (h:Rm w b n L):w.there b 0 65:=by
 intro j hj
 refine⟨?_,h.fz _⟩
 have hv:=List.getElem?_eq_getElem (l:=rl n L) (i:=j) (by rw[z2a];exact hj)
 rw[h.range j _ hv];rfl
theorem Rm.new (w:World) (n:Nat) (L:Rel) (T:TypeId):Rm (w.alloc (.cells (rv n L) T)) w.heap.size n L:=
 ⟨by rw[z0z];simp[rv,rl],fun i j hi hj=>by rw[z0z];unfold rv;rw[List.getElem?_toArray];exact rl_at n L i j hi hj,fun i=>z5O _ _ _ _⟩
theorem Rm.keep (h:Rm w b n L) (hc:∀ o,w'.cell? ⟨b,o,none⟩= w.cell? ⟨b,o,none⟩) (hf:∀ o,w'.frozen? ⟨b,o,none⟩= w.frozen? ⟨b,o,none⟩):Rm w' b n L:=
 ⟨(hc _).trans h.cn,fun i j hi hj=>(hc _).trans (h.cl i j hi hj),fun i=>(hf _).trans (h.fz i)⟩
theorem Rm.below {B:Nat} (h:Rm w b n L) (hb:Below B w w') (hB:b < B):Rm w' b n L:=
 h.keep (fun o=>hb.cell (p:=⟨b,o,none⟩) hB) (fun o=>hb.frozen (p:=⟨b,o,none⟩) hB)
theorem Rm.drew (h:Rm w b n L):Rm w.drew b n L:=h.keep (fun _=>rfl) (fun _=>rfl)
theorem Rm.drewN (h:Rm w b n L) (k:Nat):Rm (w.drewN k) b n L:=h.keep (fun _=>rfl) (fun _=>rfl)
theorem Rm.set (h:Rm w b n L) {i j:Nat} (hi:i < 8) (hj:j < 8) (v:Bool):Rm (w.setCell ⟨b,1+i*8+j,none⟩ (.bool v)) b n (upd2 L i j v):=by
 refine⟨?_,fun k l hk hl=> ?_,fun k=>by rw[z0K];exact h.fz k⟩
 ·rw[zA _ _ _ _ _ (by omega)];exact h.cn
 ·by_cases e:k= i/\l= j
  ·obtain⟨rfl,rfl⟩:=e;rw[z2d _ _ _ _ _ (h.cl k l hk hl)];simp[upd2]
  ·rw[zA _ _ _ _ _ (by omega),h.cl k l hk hl];simp only[upd2,if_neg e]
theorem Rm.setCells (h:Rm w b n L) (n':Nat) (L':Rel):Rm (w.setCells b 0 (rl n' L')) b n' L':=
 Rm.of_range (World.rangeAt_setCells_same w b 0 (rl n' L') (by rw[z2a];exact h.there)) fun i=>by rw[World.frozen?_setCells];exact h.fz i
theorem Rm.congr {M:Rel} (h:Rm w b n L) (hc:∀ i j,i < 8->j < 8->L i j= M i j):Rm w b n M:=
 ⟨h.cn,fun i j hi hj=>by rw[h.cl i j hi hj,hc i j hi hj],h.fz⟩
end
theorem z7v (n:Nat) (p:Nat->Bool):allN (n+1) p=(allN n p && p n):=by
 unfold allN;rw[List.range_succ,List.all_append];simp
theorem zbJ (n:Nat) (L:Rel) (a b:Nat) (w:World) (h8:n<=8) (ha:a < 8) (hb:b < 8):
  Calls Tryz.prog 47 #[.agg (rv n L),.int .i64 a,.int .i64 b] w fun e w'=>e= .returned (.int .i64 (jn n L a b))/\Below w.heap.size w w':=by
 have HM:=I (Rm.new w n L 36)
 have HB:=I ((Below.refl w.heap.size w).alloc (Nat.le_refl _) (.cells (rv n L) 36))
 go_enter Tryz.func47,Tryz.ntmps47
 go_wp2
 generalize w.alloc (.cells (rv n L) 36)= W at*
 go_loopg [7] n (fun g i wr=>∃ x:Nat,x+g= n/\i= .int .i64 x/\wr= W/\∀ c,c < x->isLub n L a b c= false)
 case atStart=>exact⟨0,by omega,rfl,rfl,fun c hc=>absurd hc (by omega)⟩
 case round=>
  obtain⟨x,hx,rfl,rfl,hno⟩:=hrel
  have HN:=I hno
  have hn:=HM.o.cn
  clear hno
  cases gk with
  |zero=>
   have hge: ¬ ((x:Int) <(n:Int)):=by omega
   go_wp2
   go_ret
   refine⟨zq (k:= .i64) ?_,HB.o⟩
   exact(z1O fun c hc=>HN.o c (by omega)).symm
  |succ g=>
   have hlt:(x:Int) <(n:Int):=by omega
   have hx8:(x:Int) < 8:=by omega
   have ha8:(a:Int) < 8:=by omega
   have hb8:(b:Int) < 8:=by omega
   have cax:=HM.o.cl a x ha (by omega)
   have cbx:=HM.o.cl b x hb (by omega)
   cases hax:L a x with
   |false=>
    rw[hax] at cax
    have HNO:Hid (isLub n L a b x= false):=by unfold isLub;rw[hax];rfl
    clear hax
    go_wp2
    go_roundg g
    case measure=>omega
    case rel=>
     refine⟨x+1,by omega,by go_num,rfl,fun c hc=> ?_⟩
     by_cases e:c= x
     ·subst e;exact HNO.o
     ·exact HN.o c (by omega)
   |true=>
    rw[hax] at cax
    cases hbx:L b x with
    |false=>
     rw[hbx] at cbx
     have HNO:Hid (isLub n L a b x= false):=by unfold isLub;rw[hax,hbx];rfl
     clear hax hbx
     go_wp2
     go_roundg g
     case measure=>omega
     case rel=>
      refine⟨x+1,by omega,by go_num,rfl,fun c hc=> ?_⟩
      by_cases e:c= x
      ·subst e;exact HNO.o
      ·exact HN.o c (by omega)
    |true=>
     rw[hbx] at cbx
     have HLU:Hid (isLub n L a b x= allN n (fun d=> !(L a d && L b d && !L x d))):=by unfold isLub;rw[hax,hbx];rfl
     clear hax hbx
     go_wp2
     obtain⟨V,hV⟩:∃ V:World,V= wr:=⟨_,rfl⟩
     subst hV
     go_loopg [8,9] n (fun g l i wr=>∃ y:Nat,y+g= n/\i= .int .i64 y/\wr= V/\l= .bool (allN y (fun d=> !(L a d && L b d && !L x d))))
     case atStart=>exact⟨0,by omega,rfl,rfl,rfl⟩
     case round=>
      obtain⟨y,hy,rfl,rfl,rfl⟩:=hrel
      have hn:=HM.o.cn
      cases gk with
      |zero=>
       have hge: ¬ ((y:Int) <(n:Int)):=by omega
       obtain rfl:y= n:=by omega
       cases hall:allN y (fun d=> !(L a d && L b d && !L x d)) with
       |false=>
        have HNO:=I (HLU.o.trans hall)
        clear hall
        go_wp2
        go_roundg g
        case measure=>omega
        case rel=>
         refine⟨x+1,by omega,by go_num,rfl,fun c hc=> ?_⟩
         by_cases e:c= x
         ·subst e;exact HNO.o
         ·exact HN.o c (by omega)
       |true=>
        have HYES:=I (HLU.o.trans hall)
        clear hall
        go_wp2
        go_ret
        exact⟨zq (k:= .i64) (z2k (by omega) HYES.o HN.o).symm,HB.o⟩
      |succ g2=>
       have hlt2:(y:Int) <(n:Int):=by omega
       have hy8:(y:Int) < 8:=by omega
       have cay:=HM.o.cl a y ha (by omega)
       have cby:=HM.o.cl b y hb (by omega)
       have cxy:=HM.o.cl x y (by omega) (by omega)
       have HS:=I (z7v y (fun d=> !(L a d && L b d && !L x d)))
       generalize L a y= p at*
       generalize L b y= q at*
       generalize L x y= r at*
       generalize allN y (fun d=> !(L a d && L b d && !L x d))= l at*
       clear cax cbx
       cases p with
       |false=>
        go_wp2
        go_roundg g2
        case measure=>omega
        case rel=>exact⟨y+1,by omega,by go_num,rfl,by rw[HS.o];simp⟩
       |true=>
        cases q with
        |false=>
         go_wp2
         go_roundg g2
         case measure=>omega
         case rel=>exact⟨y+1,by omega,by go_num,rfl,by rw[HS.o];simp⟩
        |true=>
         cases r with
         |false=>
          go_wp2
          go_roundg g2
          case measure=>omega
          case rel=>exact⟨y+1,by omega,by go_num,rfl,by rw[HS.o];simp⟩
         |true=>
          go_wp2
          go_roundg g2
          case measure=>omega
          case rel=>exact⟨y+1,by omega,by go_num,rfl,by rw[HS.o];simp⟩
end
section
open Go.RowKit P
theorem z0y (n:Nat) (L:Rel) (a b:Nat) (w:World) (h8:n<=8) (ha:a < 8) (hb:b < 8):
  Calls Tryz.prog 48 #[.agg (rv n L),.int .i64 a,.int .i64 b] w fun e w'=>e= .returned (.int .i64 (mt n L a b))/\Below w.heap.size w w':=by
 have HM:=I (Rm.new w n L 36)
 have HB:=I ((Below.refl w.heap.size w).alloc (Nat.le_refl _) (.cells (rv n L) 36))
 go_enter Tryz.func48,Tryz.ntmps48
 go_wp2
 generalize w.alloc (.cells (rv n L) 36)= W at*
 go_loopg [7] n (fun g i wr=>∃ x:Nat,x+g= n/\i= .int .i64 x/\wr= W/\∀ c,c < x->isLub n (opp L) a b c= false)
 case atStart=>exact⟨0,by omega,rfl,rfl,fun c hc=>absurd hc (by omega)⟩
 case round=>
  obtain⟨x,hx,rfl,rfl,hno⟩:=hrel
  have HN:=I hno
  have hn:=HM.o.cn
  clear hno
  cases gk with
  |zero=>
   have hge: ¬ ((x:Int) <(n:Int)):=by omega
   go_wp2
   go_ret
   refine⟨zq (k:= .i64) ?_,HB.o⟩
   exact(z1O fun c hc=>HN.o c (by omega)).symm
  |succ g=>
   have hlt:(x:Int) <(n:Int):=by omega
   have hx8:(x:Int) < 8:=by omega
   have ha8:(a:Int) < 8:=by omega
   have hb8:(b:Int) < 8:=by omega
   have cax:=HM.o.cl x a (by omega) ha
   have cbx:=HM.o.cl x b (by omega) hb
   cases hax:L x a with
   |false=>
    rw[hax] at cax
    have HNO:Hid (isLub n (opp L) a b x= false):=by unfold isLub opp;rw[hax];rfl
    clear hax
    go_wp2
    go_roundg g
    case measure=>omega
    case rel=>
     refine⟨x+1,by omega,by go_num,rfl,fun c hc=> ?_⟩
     by_cases e:c= x
     ·subst e;exact HNO.o
     ·exact HN.o c (by omega)
   |true=>
    rw[hax] at cax
    cases hbx:L x b with
    |false=>
     rw[hbx] at cbx
     have HNO:Hid (isLub n (opp L) a b x= false):=by unfold isLub opp;rw[hax,hbx];rfl
     clear hax hbx
     go_wp2
     go_roundg g
     case measure=>omega
     case rel=>
      refine⟨x+1,by omega,by go_num,rfl,fun c hc=> ?_⟩
      by_cases e:c= x
      ·subst e;exact HNO.o
      ·exact HN.o c (by omega)
    |true=>
     rw[hbx] at cbx
     have HLU:Hid (isLub n (opp L) a b x= allN n (fun d=> !(L d a && L d b && !L d x))):=by unfold isLub opp;rw[hax,hbx];rfl
     clear hax hbx
     go_wp2
     obtain⟨V,hV⟩:∃ V:World,V= wr:=⟨_,rfl⟩
     subst hV
     go_loopg [8,9] n (fun g l i wr=>∃ y:Nat,y+g= n/\i= .int .i64 y/\wr= V/\l= .bool (allN y (fun d=> !(L d a && L d b && !L d x))))
     case atStart=>exact⟨0,by omega,rfl,rfl,rfl⟩
     case round=>
      obtain⟨y,hy,rfl,rfl,rfl⟩:=hrel
      have hn:=HM.o.cn
      cases gk with
      |zero=>
       have hge: ¬ ((y:Int) <(n:Int)):=by omega
       obtain rfl:y= n:=by omega
       cases hall:allN y (fun d=> !(L d a && L d b && !L d x)) with
       |false=>
        have HNO:=I (HLU.o.trans hall)
        clear hall
        go_wp2
        go_roundg g
        case measure=>omega
        case rel=>
         refine⟨x+1,by omega,by go_num,rfl,fun c hc=> ?_⟩
         by_cases e:c= x
         ·subst e;exact HNO.o
         ·exact HN.o c (by omega)
       |true=>
        have HYES:=I (HLU.o.trans hall)
        clear hall
        go_wp2
        go_ret
        exact⟨zq (k:= .i64) (z2k (by omega) HYES.o HN.o).symm,HB.o⟩
      |succ g2=>
       have hlt2:(y:Int) <(n:Int):=by omega
       have hy8:(y:Int) < 8:=by omega
       have cay:=HM.o.cl y a (by omega) ha
       have cby:=HM.o.cl y b (by omega) hb
       have cxy:=HM.o.cl y x (by omega) (by omega)
       have HS:=I (z7v y (fun d=> !(L d a && L d b && !L d x)))
       generalize L y a= p at*
       generalize L y b= q at*
       generalize L y x= r at*
       generalize allN y (fun d=> !(L d a && L d b && !L d x))= l at*
       clear cax cbx
       cases p with
       |false=>
        go_wp2
        go_roundg g2
        case measure=>omega
        case rel=>exact⟨y+1,by omega,by go_num,rfl,by rw[HS.o];simp⟩
       |true=>
        cases q with
        |false=>
         go_wp2
         go_roundg g2
         case measure=>omega
         case rel=>exact⟨y+1,by omega,by go_num,rfl,by rw[HS.o];simp⟩
        |true=>
         cases r with
         |false=>
          go_wp2
          go_roundg g2
          case measure=>omega
          case rel=>exact⟨y+1,by omega,by go_num,rfl,by rw[HS.o];simp⟩
         |true=>
          go_wp2
          go_roundg g2
          case measure=>omega
          case rel=>exact⟨y+1,by omega,by go_num,rfl,by rw[HS.o];simp⟩
theorem z00 {ops:Array Oper} {rest:List Oper} {o:Oper} {a:Act} {w:World} {Q:Exit->Act->World->Prop} (x:Operand) (ho:o.op= .load 36 x)
  (hw:Region.wanted o (yielded ops a.tmps)= true) (b n:Nat) (L:Rel) (hx:a.eval x= .pointer (some ⟨b,0,none⟩)) (hm:Rm w b n L)
  (h:wpList Tryz.prog ops Q rest (a.put o.dst (.agg (rv n L))) w):wpList Tryz.prog ops Q (o::rest) a w:=
 wpList_step fun K hK=>by
  rw[if_pos hw]
  exact wp_load_mid 36 x ho b 0 hx (rl n L) _ hm.range Tryz.underlying36 rfl (by rw[z2a];kernel_rfl) (hK _ _ h)
end
section
open Go.RowKit P
def step3 (R:Rel) (a b c:Nat):Rel:=if R a b && R b c then upd2 R a c true else R
theorem z4k {R:Rel} {a b c x y:Nat}:step3 R a b c x y= true↔R x y= true\/(R a b= true/\R b c= true/\x= a/\y= c):=by
 unfold step3
 cases h1:R a b<;>cases h2:R b c<;>simp
 unfold upd2
 by_cases e:x= a/\y= c
 ·obtain⟨rfl,rfl⟩:=e;simp
 ·rw[if_neg e]
  constructor
  ·exact fun h=> .inl h
  ·rintro(h|h)
   ·exact h
   ·exact absurd h e
theorem z7N (R:Rel) (a b c:Nat):Sub R (step3 R a b c):=fun _ _ h=>z4k.2 (.inl h)
theorem zfc {R T:Rel} (a b c:Nat) (h:Sub R T) (hT:Trans T):Sub (step3 R a b c) T:=by
 intro x y hxy
 rcases z4k.1 hxy with h1|⟨h1,h2,rfl,rfl⟩
 ·exact h x y h1
 ·exact hT x b y (h x b h1) (h b y h2)
def Done (n:Nat) (R0 R:Rel) (a b c:Nat):Prop:=∀ x y z,x < n->y < n->z < n->(x < a\/(x= a/\(y < b\/(y= b/\z < c))))->R0 x y= true->R0 y z= true->R x z= true
theorem zb5 (n:Nat) (R0 R:Rel):Done n R0 R 0 0 0:=fun _ _ _ _ _ _ h=>by omega
theorem zc9 {n:Nat} {R0 R:Rel} {a b c:Nat} (hs:Sub R0 R) (h:Done n R0 R a b c):Done n R0 (step3 R a b c) a b (c+1):=by
 intro x y z hx hy hz hlt h1 h2
 by_cases e:x < a\/(x= a/\(y < b\/(y= b/\z < c)))
 ·exact z7N R a b c x z (h x y z hx hy hz e h1 h2)
 ·obtain⟨rfl,rfl,rfl⟩:x= a/\y= b/\z= c:=by omega
  exact z4k.2 (.inr ⟨hs _ _ h1,hs _ _ h2,rfl,rfl⟩)
theorem zh8 {n:Nat} {R0 R:Rel} {a b:Nat} (h:Done n R0 R a b n):Done n R0 R a (b+1) 0:=
 fun x y z hx hy hz hlt h1 h2=>h x y z hx hy hz (by omega) h1 h2
theorem zgH {n:Nat} {R0 R:Rel} {a:Nat} (h:Done n R0 R a n 0):Done n R0 R (a+1) 0 0:=
 fun x y z hx hy hz hlt h1 h2=>h x y z hx hy hz (by omega) h1 h2
theorem zeX {n:Nat} {S R0 R:Rel} {k:Nat} (hd:Dom n S) (hs:Sub R0 R) (h:Done n R0 R n 0 0) (hk:Sub (clo S k) R0):Sub (clo S (k+1)) R:=by
 intro x z hxz
 rcases z0w.1 hxz with h1|⟨h1,h2⟩
 ·exact hs _ _ (hk _ _ h1)
 ·exact h x k z (z1p hd k _ _ h1).1 (z1p hd k _ _ h1).2 (z1p hd k _ _ h2).2 (.inl (z1p hd k _ _ h1).1) (hk _ _ h1) (hk _ _ h2)
theorem rzero (w:World):(zeroValue 36).run Tryz.prog w= .ok (.agg (rv 0 fun _ _=>false)) w:=by kernel_rfl
theorem zL {ops:Array Oper} {rest:List Oper} {o:Oper} {a:Act} {w:World} {Q:Exit->Act->World->Prop} (x y:Operand) (ho:o.op= .store 36 x y)
  (hw:Region.wanted o (yielded ops a.tmps)= true) (b n:Nat) (L:Rel) (hx:a.eval x= .pointer (some ⟨b,0,none⟩)) (hy:a.eval y= .agg (rv n L)) (hm:∃ n' L',Rm w b n' L')
  (h:wpList Tryz.prog ops Q rest (a.put o.dst undef) (w.setCells b 0 (rl n L))):wpList Tryz.prog ops Q (o::rest) a w:=
 wpList_step fun K hK=>by
  rw[if_pos hw]
  obtain⟨n',L',hm⟩:=hm
  exact wp_store_mid 36 x y ho b 0 (rv n L) hx hy (by rw[z3e];exact hm.there) (by rw[z3e];kernel_rfl) (zbK n L) (hK _ _ h)
theorem z7Q {fn:Func} {p:Tmp} (h:fn.results= #[.cell p 36]) (tmps:Array Value) (w:World) (g n:Nat) (L:Rel)
  (hp:tmps.getD p undef= .pointer (some ⟨g,0,none⟩)) (hm:Rm w g n L):(results fn tmps).run Tryz.prog w= .ok (.agg (rv n L)) w:=by
 have hp':tmps[p]?.getD undef= .pointer (some ⟨g,0,none⟩):=by simpa using hp
 have hl:=run_loadVar_mid (P:=Tryz.prog) w g 0 36 (rl n L) _ hm.range Tryz.underlying36 rfl (by rw[z2a];kernel_rfl)
 simp[results,h,hp',asAddr,hl,rv]
theorem zo {B:Nat} {u w:World} (h:Below B u w) {b:Nat} (hb:B<=b) (vs:List Value):∀ o,Below B u (w.setCells b o vs):=by
 induction vs generalizing w with
 |nil=>intro o;exact h
 |cons v vs ih=>intro o;exact ih (h.setCell (p:=⟨b,o,none⟩) hb v) (o+1)
theorem Rm.far {w:World} {b n:Nat} {L:Rel} (h:Rm w b n L) {b':Nat} (hb:b≠b') (vs:List Value):∀ o,Rm (w.setCells b' o vs) b n L:=by
 induction vs generalizing w with
 |nil=>intro o;exact h
 |cons v vs ih=>
  intro o
  refine ih (w:=w.setCell ⟨b',o,none⟩ v) (h.keep (fun p=>World.cell?_setCell_other w _ _ v (fun e=>hb (by injection e with e1 _ _;exact e1.symm))) fun p=>z0K _ _ _ _) (o+1)
theorem z7R (b:Nat) (vs:List Value):∀ (o:Nat) (w:World),(w.setCells b o vs).heap.size= w.heap.size:=by
 induction vs with
 |nil=>intro o w;rfl
 |cons v vs ih=>intro o w;exact(ih (o+1) (w.setCell ⟨b,o,none⟩ v)).trans (z2E _ _ _)
theorem Rm.setCell_far {w:World} {b n:Nat} {L:Rel} (h:Rm w b n L) {p:Addr} (hb:b≠p.block) (v:Value):Rm (w.setCell p v) b n L:=
 h.keep (fun o=>World.cell?_setCell_other w _ _ v (fun e=>hb (by rw[e]))) fun o=>z0K _ _ _ _
structure Cl (wr w:World) (n:Nat) (S R0 R:Rel) (k:Nat):Prop where
 m:Rm wr w.heap.size n R
 b:Below w.heap.size w wr
 m2:∃ n' L',Rm wr (w.heap.size+1) n' L'
 lo:Sub (clo S k) R0
 sub:Sub R0 R
 up:Sub R (clo S n)
theorem Cl.step {wr w:World} {n:Nat} {S R0 R:Rel} {k:Nat} (h:Cl wr w n S R0 R k) (hd:Dom n S) {a b c:Nat} (ha:a < 8) (hc:c < 8) (hab:R a b= true) (hbc:R b c= true):
  Cl (wr.setCell ⟨w.heap.size,1+a*8+c,none⟩ (.bool true)) w n S R0 (step3 R a b c) k:=by
 refine⟨?_,h.b.setCell (Nat.le_refl _) _,?_,h.lo,fun x y hxy=>z7N _ _ _ _ _ _ (h.sub x y hxy),zfc _ _ _ h.up (z7p hd)⟩
 ·have:=h.m.set ha hc true
  unfold step3;rw[hab,hbc];exact this
 ·obtain⟨n',L',h2⟩:=h.m2
  exact⟨n',L',h2.setCell_far (by simp) _⟩
theorem z9f {R:Rel} {a b c:Nat} (h:(R a b && R b c)= false):step3 R a b c= R:=by unfold step3;rw[h];rfl
theorem zaG (n:Nat) (S:Rel) (w:World) (h8:n<=8) (hd:Dom n S):
  Calls Tryz.prog 46 #[.agg (rv n S)] w fun e w'=>e= .returned (.agg (rv n (clo S n)))/\Below w.heap.size w w':=by
 have HD:=I hd
 clear hd
 have hz:=rzero
 have HC0:Hid (Cl ((w.alloc (.cells (rv n S) 36)).alloc (.cells (rv 0 fun _ _=>false) 36)) w n S S S 0):=by
  refine I ⟨(Rm.new w n S 36).below ((Below.refl _ _).alloc (Nat.le_refl _) _) (by simp),((Below.refl _ _).alloc (Nat.le_refl _) _).alloc (by simp) _,⟨0,fun _ _=>false,?_⟩,fun _ _ h=>h,fun _ _ h=>h,z9X S n⟩
  have:=Rm.new (w.alloc (.cells (rv n S) 36)) 0 (fun _ _=>false) 36
  simpa using this
 go_enter Tryz.func46,Tryz.ntmps46
 go_wp2
 clear hz
 generalize (w.alloc (.cells (rv n S) 36)).alloc (.cells (rv 0 fun _ _=>false) 36)= W at*
 go_loopg [3] 8 (fun g i wr=>∃ (k:Nat) (R:Rel),k+g= 8/\i= .int .i64 k/\Cl wr w n S R R k)
 case atStart=>exact⟨0,S,by omega,rfl,HC0.o⟩
 case round=>
  obtain⟨k,R0,hk,rfl,hc⟩:=hrel
  have HC1:=I hc
  clear hc
  cases gk with
  |zero=>
   obtain rfl:k= 8:=by omega
   have HE:=I (z9z h8 HC1.o.lo HC1.o.up)
   go_wp2_with (first|(refine z00 _ rfl (by simp[Region.wanted]) w.heap.size n R0 rfl HC1.o.m ?_)|(refine zL _ _ rfl (by simp[Region.wanted]) (w.heap.size+1) n R0 rfl rfl HC1.o.m2 ?_))
   obtain⟨n',L',h2⟩:=HC1.o.m2
   exact bodyPost_ret (z7Q rfl _ _ (w.heap.size+1) n R0 rfl (h2.setCells n R0)) rfl ⟨by rw[HE.o],zo HC1.o.b (by omega) _ _⟩
  |succ g=>
   have hlt:(k:Int) < 8:=by omega
   go_wp2
   go_loopg [4] n (fun g i wr=>∃ (a:Nat) (R:Rel),a+g= n/\i= .int .i64 a/\Cl wr w n S R0 R k/\Done n R0 R a 0 0)
   case atStart=>exact⟨0,R0,by omega,rfl,HC1.o,zb5 _ _ _⟩
   case round=>
    obtain⟨a,R,ha,rfl,hc,hdo⟩:=hrel
    have HC2:=I hc
    have HD2:=I hdo
    have hn:=hc.m.cn
    clear hc hdo
    cases gk with
    |zero=>
     have hge: ¬ ((a:Int) <(n:Int)):=by omega
     obtain rfl:a= n:=by omega
     go_wp2
     go_roundg g
     case measure=>omega
     case rel=>exact⟨k+1,R,by omega,by go_num,HC2.o.m,HC2.o.b,HC2.o.m2,zeX HD.o HC2.o.sub HD2.o HC2.o.lo,fun _ _ h=>h,HC2.o.up⟩
    |succ g2=>
     have hlt2:(a:Int) <(n:Int):=by omega
     go_wp2
     clear hn
     obtain⟨V,hV⟩:∃ V:World,V= wr:=⟨_,rfl⟩
     subst hV
     go_loopg [5] n (fun g i wr=>∃ (b:Nat) (R:Rel),b+g= n/\i= .int .i64 b/\Cl wr w n S R0 R k/\Done n R0 R a b 0)
     case atStart=>exact⟨0,R,by omega,rfl,HC2.o,HD2.o⟩
     case round=>
      obtain⟨b,R,hb,rfl,hc,hdo⟩:=hrel
      have HC3:=I hc
      have HD3:=I hdo
      have hn:=hc.m.cn
      clear hc hdo
      cases gk with
      |zero=>
       have hge: ¬ ((b:Int) <(n:Int)):=by omega
       obtain rfl:b= n:=by omega
       go_wp2
       go_roundg g2
       case measure=>omega
       case rel=>exact⟨a+1,R,by omega,by go_num,HC3.o,zgH HD3.o⟩
      |succ g3=>
       have hlt3:(b:Int) <(n:Int):=by omega
       go_wp2
       clear hn
       obtain⟨V,hV⟩:∃ V:World,V= wr:=⟨_,rfl⟩
       subst hV
       go_loopg [6] n (fun g i wr=>∃ (c:Nat) (R:Rel),c+g= n/\i= .int .i64 c/\Cl wr w n S R0 R k/\Done n R0 R a b c)
       case atStart=>exact⟨0,R,by omega,rfl,HC3.o,HD3.o⟩
       case round=>
        obtain⟨c,R,hcc,rfl,hc,hdo⟩:=hrel
        have HC4:=I hc
        have HD4:=I hdo
        have hn:=hc.m.cn
        cases gk with
        |zero=>
         have hge: ¬ ((c:Int) <(n:Int)):=by omega
         obtain rfl:c= n:=by omega
         clear hc hdo
         go_wp2
         go_roundg g3
         case measure=>omega
         case rel=>exact⟨b+1,R,by omega,by go_num,HC4.o,zh8 HD4.o⟩
        |succ g4=>
         have hlt4:(c:Int) <(n:Int):=by omega
         have ha8:(a:Int) < 8:=by omega
         have hb8:(b:Int) < 8:=by omega
         have hc8:(c:Int) < 8:=by omega
         have cab:=hc.m.cl a b (by omega) (by omega)
         have cbc:=hc.m.cl b c (by omega) (by omega)
         have cac:=hc.m.cl a c (by omega) (by omega)
         have fac:=hc.m.fz (1+a*8+c)
         clear hc
         have HST:=I (zc9 (a:=a) (b:=b) (c:=c) HC4.o.sub HD4.o)
         clear hdo
         cases hab:R a b with
         |false=>
          rw[hab] at cab
          have HN:=I (z9f (R:=R) (a:=a) (b:=b) (c:=c) (by rw[hab];rfl))
          clear hab
          go_wp2
          go_roundg g4
          case measure=>omega
          case rel=>exact⟨c+1,R,by omega,by go_num,HC4.o,by have:=HST.o;rwa [HN.o] at this⟩
         |true=>
          rw[hab] at cab
          cases hbc:R b c with
          |false=>
           rw[hbc] at cbc
           have HN:=I (z9f (R:=R) (a:=a) (b:=b) (c:=c) (by rw[hbc];simp))
           clear hab hbc
           go_wp2
           go_roundg g4
           case measure=>omega
           case rel=>exact⟨c+1,R,by omega,by go_num,HC4.o,by have:=HST.o;rwa [HN.o] at this⟩
          |true=>
           rw[hbc] at cbc
           have HNEW:=I (HC4.o.step HD.o (show a < 8 by omega) (show c < 8 by omega) hab hbc)
           clear hab hbc
           go_wp2
           go_roundg g4
           case measure=>omega
           case rel=>exact⟨c+1,_,by omega,by go_num,HNEW.o,HST.o⟩
end
section
open Go.RowKit P
def rmkN (n:Int) (ps:List (Int × Int)):Nat:=if makeE n ps= 0 then n.toNat else 0
def rmkL (n:Int) (ps:List (Int × Int)):Rel:=if makeE n ps= 0 then ordOf n.toNat ps else fun _ _=>false
def z4r (w:World) (n:Int) (ps:List (Int × Int)) (e:Ending) (w':World):Prop:=
 e= .returned (.tuple #[.agg (rv (rmkN n ps) (rmkL n ps)),.int .i64 (makeE n ps)])/\Below w.heap.size w w'
theorem rv_ne (n:Nat) (L:Rel):(rv n L= #[])= False:=by
 rw[eq_iff_iff,iff_false];intro h;have:=congrArg Array.size h;rw[z3e] at this;simp at this
theorem zfs (k:Nat):(rv 0 fun _ _=>false).setIfInBounds 0 (.int .i64 k)= rv k fun _ _=>false:=rfl
theorem zQ {fn:Func} {p q:Tmp} (h:fn.results= #[.cell p 36,.tmp q]) (tmps:Array Value) (w:World) (g n:Nat) (L:Rel) (v:Value)
  (hp:tmps.getD p undef= .pointer (some ⟨g,0,none⟩)) (hq:tmps.getD q undef= v) (hm:Rm w g n L):(results fn tmps).run Tryz.prog w= .ok (.tuple #[.agg (rv n L),v]) w:=by
 have hp':tmps[p]?.getD undef= .pointer (some ⟨g,0,none⟩):=by simpa using hp
 have hq':tmps[q]?.getD undef= v:=by simpa using hq
 have hl:=run_loadVar_mid (P:=Tryz.prog) w g 0 36 (rl n L) _ hm.range Tryz.underlying36 rfl (by rw[z2a];kernel_rfl)
 simp[results,h,hp',hq',asAddr,hl,rv]
structure Rk (wr w:World) (n:Nat) (R:Rel):Prop where
 m1:∃ n' L',Rm wr w.heap.size n' L'
 m:Rm wr (w.heap.size+1) n R
 b:Below w.heap.size w wr
 s:w.heap.size+1 < wr.heap.size
theorem Rk.set {wr w:World} {n:Nat} {R:Rel} (h:Rk wr w n R) {i j:Nat} (hi:i < 8) (hj:j < 8):Rk (wr.setCell ⟨w.heap.size+1,1+i*8+j,none⟩ (.bool true)) w n (upd2 R i j true):=by
 obtain⟨n',L',h1⟩:=h.m1
 exact⟨⟨n',L',h1.setCell_far (by simp) _⟩,h.m.set hi hj true,h.b.setCell (by simp) _,by rw[z2E];exact h.s⟩
theorem Rk.below {wr w w1:World} {n:Nat} {R:Rel} (h:Rk wr w n R) (hb:Below wr.heap.size wr w1):Rk w1 w n R:=by
 obtain⟨n',L',h1⟩:=h.m1
 have:=h.s
 exact⟨⟨n',L',h1.below hb (by omega)⟩,h.m.below hb h.s,h.b.trans (hb.mono (by omega)),by have:=hb.size;omega⟩
theorem Rk.drewN {wr w:World} {n:Nat} {R:Rel} (h:Rk wr w n R) (k:Nat):Rk (wr.drewN k) w n R:=by
 obtain⟨n',L',h1⟩:=h.m1
 exact⟨⟨n',L',h1.drewN k⟩,h.m.drewN k,zt h.b k,h.s⟩
theorem Rk.store {wr w:World} {n:Nat} {R:Rel} (h:Rk wr w n R) (n2:Nat) (R2:Rel):Rk (wr.setCells (w.heap.size+1) 0 (rl n2 R2)) w n2 R2:=by
 obtain⟨n',L',h1⟩:=h.m1
 exact⟨⟨n',L',h1.far (by omega) _ _⟩,h.m.setCells n2 R2,zo h.b (by omega) _ _,by rw[z7R];exact h.s⟩
theorem Rk.congr {wr w:World} {n:Nat} {R M:Rel} (h:Rk wr w n R) (hc:∀ i j,i < 8->j < 8->R i j= M i j):Rk wr w n M:=⟨h.m1,h.m.congr hc,h.b,h.s⟩
theorem zf1 (x a b:Nat):upd2 (diag x) x x true a b= diag (x+1) a b:=by
 unfold upd2 diag
 by_cases e:a= x/\b= x
 ·obtain⟨rfl,rfl⟩:=e;simp
 ·rw[if_neg e]
  by_cases e2:a= b
  ·subst e2
   have:(a < x+1)=(a < x):=by simp;omega
   simp[this]
  ·have e3:(a ==b)= false:=beq_eq_false_iff_ne.2 e2
   simp[e3]
theorem zdH (k:Nat) (ps:List (Int × Int)) (x y:Nat) (hx:x < k) (hy:y < k) (a b:Nat):upd2 (rel0 k ps) x y true a b= rel0 k (ps ++ [((x:Int),(y:Int))]) a b:=by
 rw[← z7E k ps x y hx hy a b]
 unfold upd2 upd
 by_cases e:a= x
 ·subst e
  by_cases e2:b= y
  ·subst e2;simp
  ·have e3:(b ==y)= false:=beq_eq_false_iff_ne.2 e2
   simp[e2,e3]
 ·simp[e]
theorem z18 {w w':World} {n:Int} {ps:List (Int × Int)} {v:Int} {k:Nat} {R:Rel} (hb:Below w.heap.size w w') (h:makeE n ps= v) (hk:rmkN n ps= k) (hR:rmkL n ps= R):
  z4r w n ps (.returned (.tuple #[.agg (rv k R),.int .i64 v])) w':=by
 subst h;subst hk;subst hR
 exact⟨rfl,hb⟩
theorem z05 {n:Int} {ps:List (Int × Int)} {v:Int} (h:makeE n ps= v) (hv:v≠0):rmkN n ps= 0/\rmkL n ps= fun _ _=>false:=by
 unfold rmkN rmkL;rw[h,if_neg hv,if_neg hv];exact⟨rfl,rfl⟩
theorem zdO (k : Nat) (A : Option Addr) (c : Nat) (ps : List (Int × Int)) (w : World) (hp : Pairs w w.heap.size A ps) (h1 : 1 <= k) (h8 : k <= 8) (hl : ps.length <= 64) :
    Calls Tryz.prog 21 #[.int .i64 k, .slice A ps.length c] w (z4r w k ps) := by
  have t1 : decide ((k : Int) < 1) = false := by simp; omega
  have t2 : decide ((8 : Int) < k) = false := by simp; omega
  have t3 : decide ((64 : Int) < ps.length) = false := by simp; omega
  have hz := rzero
  have hne := rv_ne
  have hs0 := zfs k
  have HP := I hp
  clear hp
  have HK : Hid (Rk ((w.alloc (.cells (rv 0 fun _ _ => false) 36)).alloc (.cells (rv 0 fun _ _ => false) 36)) w 0 fun _ _ => false) := by
    have h2 := Rm.new (w.alloc (.cells (rv 0 fun _ _ => false) 36)) 0 (fun _ _ => false) 36
    exact I ⟨⟨0, fun _ _ => false, (Rm.new w 0 _ 36).below ((Below.refl _ _).alloc (Nat.le_refl _) _) (by simp)⟩, by simpa using h2, ((Below.refl _ _).alloc (Nat.le_refl _) _).alloc (by simp) _, by simp⟩
  go_enter Tryz.func21, Tryz.ntmps21
  go_wp2_with (refine zL _ _ rfl (by simp [Region.wanted]) (w.heap.size + 1) k (fun _ _ => false) rfl rfl ⟨_, _, HK.o.m⟩ ?_)
  clear hz hne hs0
  have HK1 := I (HK.o.store k (fun _ _ => false))
  clear HK
  generalize World.setCells _ _ _ _ = W at *
  go_loopg [7] k (fun g i wr => ∃ x : Nat, x + g = k /\ i = .int .i64 x /\ Rk wr w k (diag x))
  case atStart => exact ⟨0, by omega, rfl, HK1.o.congr fun _ _ _ _ => z6W _ _⟩
  case round =>
    obtain ⟨x, hx, rfl, hk⟩ := hrel
    have HK2 := I hk
    cases gk with
    | succ g =>
      have hlt : (x : Int) < (k : Int) := by omega
      have hx8 : (x : Int) < 8 := by omega
      have cu := hk.m.cl x x (by omega) (by omega)
      have fu := hk.m.fz (1 + x * 8 + x)
      clear hk
      go_wp2
      go_roundg g
      case measure => omega
      case rel => exact ⟨x + 1, by omega, by go_num, (HK2.o.set (by omega) (by omega)).congr fun _ _ _ _ => zf1 _ _ _⟩
    | zero =>
      have hge : ¬ ((x : Int) < (k : Int)) := by omega
      obtain rfl : x = k := by omega
      clear hk
      have HK3 := I (HK2.o.congr fun a b ha hb => z8n _ a b ha hb)
      go_wp2
      go_loopg [8] ps.length (fun g i wr => ∃ j : Nat, j + g = ps.length /\ i = .int .i64 j /\ z0r x (ps.take j) = true /\ Rk wr w x (rel0 x (ps.take j)))
      case atStart => exact ⟨0, by omega, rfl, rfl, HK3.o⟩
      case round =>
        obtain ⟨j, hj, rfl, hok, hk⟩ := hrel
        have HK4 := I hk
        have HO := I hok
        clear hok hk
        cases gk with
        | succ g =>
          have hlt : (j : Int) < (ps.length : Int) := by omega
          obtain ⟨p, hp⟩ : ∃ p, ps[j]? = some p := ⟨_, List.getElem?_eq_getElem (by omega)⟩
          obtain ⟨b, o, rfl, hbl, hcell⟩ := HP.o.2 (by omega)
          obtain ⟨c0, c1, wf0, wf1⟩ := hcell j p hp
          have d0 := (HK4.o.b.cell (p := ⟨b, o + j * 2, none⟩) hbl).trans c0
          have d1 := (HK4.o.b.cell (p := ⟨b, o + j * 2 + 1, none⟩) hbl).trans c1
          clear c0 c1 hcell
          obtain ⟨p0, p1⟩ := p
          have HPJ := I hp
          clear hp
          simp only at d0 d1 wf0 wf1
          go_wp2
          go_quiet (fail)
          cases hr : (isLb x p0 && isLb x p1) with
          | false =>
            have HR := I hr
            have hr2 : p0 < 0 \/ (x : Int) <= p0 \/ p1 < 0 \/ (x : Int) <= p1 := by
              unfold isLb at hr; simp at hr; omega
            have HR2 := I hr2
            have h2 : makeE x ps = 2 := by
              unfold makeE
              rw [if_neg (by omega), if_pos (z3Z HPJ.o HR.o)]
            have H2 := I h2
            have hz := rzero
            clear hr hr2 h2 d0 d1
            go_wp2_with (refine zL _ _ rfl (by simp [Region.wanted]) w.heap.size 0 (fun _ _ => false) rfl rfl (HK4.o.drewN _).m1 ?_)
            all_goals first
              | (exfalso; have := HR2.o; omega)
              | (obtain ⟨n', L', h1⟩ := (HK4.o.drewN nq).m1
                 exact bodyPost_ret (zQ rfl _ _ w.heap.size 0 (fun _ _ => false) (.int .i64 2) rfl rfl (h1.setCells 0 _)) rfl
                   (z18 (zo (HK4.o.drewN nq).b (Nat.le_refl _) _ _) H2.o (z05 H2.o (by decide)).1 (z05 H2.o (by decide)).2))
          | true =>
            obtain ⟨a, e, rfl, rfl, ha, hb⟩ : ∃ a e : Nat, p0 = a /\ p1 = e /\ a < x /\ e < x := by
              unfold isLb at hr; simp at hr
              exact ⟨p0.toNat, p1.toNat, by omega, by omega, by omega, by omega⟩
            have cu := (HK4.o.drewN nq).m.cl a e (by omega) (by omega)
            have fu := (HK4.o.drewN nq).m.fz (1 + a * 8 + e)
            clear hr d0 d1
            go_wp2
            go_roundg g
            case measure => omega
            case rel =>
              refine ⟨j + 1, by omega, by go_num, ?_, ?_⟩
              · rw [z1t HPJ.o, z4t, HO.o]; unfold isLb; simp; omega
              · rw [z1t HPJ.o]
                exact ((HK4.o.drewN nq).set (show a < 8 by omega) (show e < 8 by omega)).congr fun i l _ _ => zdH _ _ _ _ ha hb _ _
        | zero =>
          obtain rfl : j = ps.length := by omega
          rw [List.take_length] at HK4 HO
          have hge2 : ¬ ((ps.length : Int) < (ps.length : Int)) := by omega
          have CC := I (zaG x (rel0 x ps) wr h8 (z2N x ps))
          go_wp2_with (first | (refine z00 _ rfl (by simp [Region.wanted]) (w.heap.size + 1) x (rel0 x ps) rfl HK4.o.m ?_) | (go_at_call 46; refine CC.o.mono ?_; rintro e w1 ⟨rfl, hb⟩; have HK5 := I (HK4.o.below hb); clear hb CC) | (refine zL _ _ rfl (by simp [Region.wanted]) (w.heap.size + 1) x (clo (rel0 x ps) x) rfl rfl ⟨_, _, HK5.o.m⟩ ?_))
          have HK6 := I (HK5.o.store x (ordOf x ps))
          change Hid (Rk (w1.setCells (w.heap.size + 1) 0 (rl x (clo (rel0 x ps) x))) _ _ _) at HK6
          generalize World.setCells _ _ _ _ = W2 at *
          have HBAD16 : Hid (∀ a b : Nat, a < x /\ b < x -> badAt x (ordOf x ps) a b = true -> makeE x ps = 16) := by
            refine I fun a b hab h => ?_
            unfold makeE
            rw [if_neg (by omega), if_neg (by rw [HO.o]; decide), Int.toNat_natCast, z3H hab.1 hab.2 h]; rfl
          have HGOOD : Hid ((∀ a b, a < x -> b < x -> badAt x (ordOf x ps) a b = false) -> makeE x ps = 0) := by
            refine I fun h => ?_
            unfold makeE
            rw [if_neg (by omega), if_neg (by rw [HO.o]; decide), Int.toNat_natCast, z7k h]; rfl
          have HRL : Hid (makeE x ps = 0 -> rmkN x ps = x /\ rmkL x ps = ordOf x ps) := by
            refine I fun h => ?_
            unfold rmkN rmkL; rw [h]; simp
          generalize ordOf x ps = L at *
          go_loopg [11] x (fun g i wr => ∃ a : Nat, a + g = x /\ i = .int .i64 a /\ (∀ i j, i < a -> j < x -> badAt x L i j = false) /\ Rk wr w x L)
          case atStart => exact ⟨0, by omega, rfl, fun i j hi _ => absurd hi (by omega), HK6.o⟩
          case round =>
            obtain ⟨a, ha, rfl, hb, hk⟩ := hrel
            have HB1 := I hb
            have HK7 := I hk
            clear hb hk
            cases gk with
            | zero =>
              have hge3 : ¬ ((a : Int) < (x : Int)) := by omega
              obtain rfl : a = x := by omega
              have HE := I (HGOOD.o HB1.o)
              go_wp2_with (first | (refine z00 _ rfl (by simp [Region.wanted]) (w.heap.size + 1) a L rfl HK7.o.m ?_) | (refine zL _ _ rfl (by simp [Region.wanted]) w.heap.size a L rfl rfl HK7.o.m1 ?_))
              obtain ⟨n', L', h1⟩ := HK7.o.m1
              exact bodyPost_ret (zQ rfl _ _ w.heap.size a L (.int .i64 0) rfl rfl (h1.setCells a L)) rfl
                (z18 (zo HK7.o.b (Nat.le_refl _) _ _) HE.o (HRL.o HE.o).1 (HRL.o HE.o).2)
            | succ g =>
              have hlt3 : (a : Int) < (x : Int) := by omega
              go_wp2
              obtain ⟨V, hV⟩ : ∃ V : World, V = wr := ⟨_, rfl⟩
              subst hV
              go_loopg [12] x (fun g i wr => ∃ b : Nat, b + g = x /\ i = .int .i64 b /\ (∀ j, j < b -> badAt x L a j = false) /\ Rk wr w x L)
              case atStart => exact ⟨0, by omega, rfl, fun j hj => absurd hj (by omega), HK7.o⟩
              case round =>
                obtain ⟨b, hb, rfl, hbd, hk⟩ := hrel
                have HB2 := I hbd
                have HK8 := I hk
                clear hbd
                cases gk with
                | zero =>
                  have hge4 : ¬ ((b : Int) < (x : Int)) := by omega
                  obtain rfl : b = x := by omega
                  clear hk
                  go_wp2
                  go_roundg g
                  case measure => omega
                  case rel =>
                    refine ⟨a + 1, by omega, by go_num, fun i j hi hj => ?_, HK8.o⟩
                    by_cases e : i = a
                    · subst e; exact HB2.o j hj
                    · exact HB1.o i j (by omega) hj
                | succ g2 =>
                  have hlt4 : (b : Int) < (x : Int) := by omega
                  have ha8 : (a : Int) < 8 := by omega
                  have hb8 : (b : Int) < 8 := by omega
                  have cab := hk.m.cl a b (by omega) (by omega)
                  have cba := hk.m.cl b a (by omega) (by omega)
                  have CJ := I (zbJ x L a b wr h8 (by omega) (by omega))
                  have HBAD16 := I (HBAD16.o a b (show a < x /\ b < x by omega))
                  have hbad : badAt x L a b = ((a != b && L a b && L b a) || decide (jn x L a b < 0) || decide (mt x L a b < 0)) := rfl
                  have HTW := I hbad
                  clear hk hbad
                  generalize L a b = p at *
                  generalize L b a = q at *
                  by_cases hab : a = b
                  · have e1 : ((a : Int) != (b : Int)) = false := by simp [hab]
                    have e2 : (a != b) = false := by simp [hab]
                    rw [e2, Bool.false_and, Bool.false_and, Bool.false_or] at HTW
                    clear hab e2
                    have hbx : badAt x L a b = (decide (jn x L a b < 0) || decide (mt x L a b < 0)) := HTW.o
                    by_cases hj : jn x L a b < 0
                    · have HX : Hid (badAt x L a b = true) := I (hbx.trans (by simp [hj]))
                      clear hbx
                      have H16 := I (HBAD16.o HX.o)
                      have hz := rzero
                      clear HX
                      go_wp2_with (first | (refine z00 _ rfl (by go_simp) (w.heap.size + 1) x L rfl HK8.o.m ?_) | (go_at_call 47; refine CJ.o.mono ?_; rintro e w1 ⟨rfl, hb1⟩; have HK9 := I (HK8.o.below hb1); have CM := I (z0y x L a b w1 h8 (by omega) (by omega)); clear hb1 CJ) | (refine zL _ _ rfl (by simp [Region.wanted]) w.heap.size 0 (fun _ _ => false) rfl rfl HK9.o.m1 ?_))
                      obtain ⟨n', L', h1⟩ := HK9.o.m1
                      exact bodyPost_ret (zQ rfl _ _ w.heap.size 0 (fun _ _ => false) (.int .i64 16) rfl rfl (h1.setCells 0 _)) rfl
                        (z18 (zo HK9.o.b (Nat.le_refl _) _ _) H16.o (z05 H16.o (by decide)).1 (z05 H16.o (by decide)).2)
                    · have hj2 : 0 <= jn x L a b := by omega
                      by_cases hm : mt x L a b < 0
                      · have HX : Hid (badAt x L a b = true) := I (hbx.trans (by simp [hm]))
                        clear hbx
                        have H16 := I (HBAD16.o HX.o)
                        have hz := rzero
                        clear HX
                        go_wp2_with (first | (refine z00 _ rfl (by go_simp) (w.heap.size + 1) x L rfl HK8.o.m ?_) | (go_at_call 47; refine CJ.o.mono ?_; rintro e w1 ⟨rfl, hb1⟩; have HK9 := I (HK8.o.below hb1); have CM := I (z0y x L a b w1 h8 (by omega) (by omega)); clear hb1 CJ) | (refine z00 _ rfl (by go_simp) (w.heap.size + 1) x L rfl HK9.o.m ?_) | (go_at_call 48; refine CM.o.mono ?_; rintro e w2 ⟨rfl, hb2⟩; have HK10 := I (HK9.o.below hb2); clear hb2 CM) | (refine zL _ _ rfl (by simp [Region.wanted]) w.heap.size 0 (fun _ _ => false) rfl rfl HK10.o.m1 ?_))
                        obtain ⟨n', L', h1⟩ := HK10.o.m1
                        exact bodyPost_ret (zQ rfl _ _ w.heap.size 0 (fun _ _ => false) (.int .i64 16) rfl rfl (h1.setCells 0 _)) rfl
                          (z18 (zo HK10.o.b (Nat.le_refl _) _ _) H16.o (z05 H16.o (by decide)).1 (z05 H16.o (by decide)).2)
                      · have hm2 : 0 <= mt x L a b := by omega
                        have HX := I (hbx.trans (show (decide (jn x L a b < 0) || decide (mt x L a b < 0)) = false by simp; omega))
                        clear hbx
                        go_wp2_with (first | (refine z00 _ rfl (by go_simp) (w.heap.size + 1) x L rfl HK8.o.m ?_) | (go_at_call 47; refine CJ.o.mono ?_; rintro e w1 ⟨rfl, hb1⟩; have HK9 := I (HK8.o.below hb1); have CM := I (z0y x L a b w1 h8 (by omega) (by omega)); clear hb1 CJ) | (refine z00 _ rfl (by go_simp) (w.heap.size + 1) x L rfl HK9.o.m ?_) | (go_at_call 48; refine CM.o.mono ?_; rintro e w2 ⟨rfl, hb2⟩; have HK10 := I (HK9.o.below hb2); clear hb2 CM))
                        go_roundg g2
                        case measure => omega
                        case rel =>
                          refine ⟨b + 1, by omega, by go_num, fun c hc => ?_, HK10.o⟩
                          by_cases e : c = b
                          · subst e; exact HX.o
                          · exact HB2.o c (by omega)
                  · have e1 : ((a : Int) != (b : Int)) = true := by simp; omega
                    have e2 : (a != b) = true := by simpa using hab
                    rw [e2, Bool.true_and] at HTW
                    clear hab e2
                    cases p with
                    | false =>
                      rw [Bool.false_and, Bool.false_or] at HTW
                      have hbx : badAt x L a b = (decide (jn x L a b < 0) || decide (mt x L a b < 0)) := HTW.o
                      by_cases hj : jn x L a b < 0
                      · have HX : Hid (badAt x L a b = true) := I (hbx.trans (by simp [hj]))
                        clear hbx
                        have H16 := I (HBAD16.o HX.o)
                        have hz := rzero
                        clear HX
                        go_wp2_with (first | (refine z00 _ rfl (by go_simp) (w.heap.size + 1) x L rfl HK8.o.m ?_) | (go_at_call 47; refine CJ.o.mono ?_; rintro e w1 ⟨rfl, hb1⟩; have HK9 := I (HK8.o.below hb1); have CM := I (z0y x L a b w1 h8 (by omega) (by omega)); clear hb1 CJ) | (refine zL _ _ rfl (by simp [Region.wanted]) w.heap.size 0 (fun _ _ => false) rfl rfl HK9.o.m1 ?_))
                        obtain ⟨n', L', h1⟩ := HK9.o.m1
                        exact bodyPost_ret (zQ rfl _ _ w.heap.size 0 (fun _ _ => false) (.int .i64 16) rfl rfl (h1.setCells 0 _)) rfl
                          (z18 (zo HK9.o.b (Nat.le_refl _) _ _) H16.o (z05 H16.o (by decide)).1 (z05 H16.o (by decide)).2)
                      · have hj2 : 0 <= jn x L a b := by omega
                        by_cases hm : mt x L a b < 0
                        · have HX : Hid (badAt x L a b = true) := I (hbx.trans (by simp [hm]))
                          clear hbx
                          have H16 := I (HBAD16.o HX.o)
                          have hz := rzero
                          clear HX
                          go_wp2_with (first | (refine z00 _ rfl (by go_simp) (w.heap.size + 1) x L rfl HK8.o.m ?_) | (go_at_call 47; refine CJ.o.mono ?_; rintro e w1 ⟨rfl, hb1⟩; have HK9 := I (HK8.o.below hb1); have CM := I (z0y x L a b w1 h8 (by omega) (by omega)); clear hb1 CJ) | (refine z00 _ rfl (by go_simp) (w.heap.size + 1) x L rfl HK9.o.m ?_) | (go_at_call 48; refine CM.o.mono ?_; rintro e w2 ⟨rfl, hb2⟩; have HK10 := I (HK9.o.below hb2); clear hb2 CM) | (refine zL _ _ rfl (by simp [Region.wanted]) w.heap.size 0 (fun _ _ => false) rfl rfl HK10.o.m1 ?_))
                          obtain ⟨n', L', h1⟩ := HK10.o.m1
                          exact bodyPost_ret (zQ rfl _ _ w.heap.size 0 (fun _ _ => false) (.int .i64 16) rfl rfl (h1.setCells 0 _)) rfl
                            (z18 (zo HK10.o.b (Nat.le_refl _) _ _) H16.o (z05 H16.o (by decide)).1 (z05 H16.o (by decide)).2)
                        · have hm2 : 0 <= mt x L a b := by omega
                          have HX := I (hbx.trans (show (decide (jn x L a b < 0) || decide (mt x L a b < 0)) = false by simp; omega))
                          clear hbx
                          go_wp2_with (first | (refine z00 _ rfl (by go_simp) (w.heap.size + 1) x L rfl HK8.o.m ?_) | (go_at_call 47; refine CJ.o.mono ?_; rintro e w1 ⟨rfl, hb1⟩; have HK9 := I (HK8.o.below hb1); have CM := I (z0y x L a b w1 h8 (by omega) (by omega)); clear hb1 CJ) | (refine z00 _ rfl (by go_simp) (w.heap.size + 1) x L rfl HK9.o.m ?_) | (go_at_call 48; refine CM.o.mono ?_; rintro e w2 ⟨rfl, hb2⟩; have HK10 := I (HK9.o.below hb2); clear hb2 CM))
                          go_roundg g2
                          case measure => omega
                          case rel =>
                            refine ⟨b + 1, by omega, by go_num, fun c hc => ?_, HK10.o⟩
                            by_cases e : c = b
                            · subst e; exact HX.o
                            · exact HB2.o c (by omega)
                    | true =>
                      rw [Bool.true_and] at HTW
                      cases q with
                      | false =>
                        rw [Bool.false_or] at HTW
                        have hbx : badAt x L a b = (decide (jn x L a b < 0) || decide (mt x L a b < 0)) := HTW.o
                        by_cases hj : jn x L a b < 0
                        · have HX : Hid (badAt x L a b = true) := I (hbx.trans (by simp [hj]))
                          clear hbx
                          have H16 := I (HBAD16.o HX.o)
                          have hz := rzero
                          clear HX
                          go_wp2_with (first | (refine z00 _ rfl (by go_simp) (w.heap.size + 1) x L rfl HK8.o.m ?_) | (go_at_call 47; refine CJ.o.mono ?_; rintro e w1 ⟨rfl, hb1⟩; have HK9 := I (HK8.o.below hb1); have CM := I (z0y x L a b w1 h8 (by omega) (by omega)); clear hb1 CJ) | (refine zL _ _ rfl (by simp [Region.wanted]) w.heap.size 0 (fun _ _ => false) rfl rfl HK9.o.m1 ?_))
                          obtain ⟨n', L', h1⟩ := HK9.o.m1
                          exact bodyPost_ret (zQ rfl _ _ w.heap.size 0 (fun _ _ => false) (.int .i64 16) rfl rfl (h1.setCells 0 _)) rfl
                            (z18 (zo HK9.o.b (Nat.le_refl _) _ _) H16.o (z05 H16.o (by decide)).1 (z05 H16.o (by decide)).2)
                        · have hj2 : 0 <= jn x L a b := by omega
                          by_cases hm : mt x L a b < 0
                          · have HX : Hid (badAt x L a b = true) := I (hbx.trans (by simp [hm]))
                            clear hbx
                            have H16 := I (HBAD16.o HX.o)
                            have hz := rzero
                            clear HX
                            go_wp2_with (first | (refine z00 _ rfl (by go_simp) (w.heap.size + 1) x L rfl HK8.o.m ?_) | (go_at_call 47; refine CJ.o.mono ?_; rintro e w1 ⟨rfl, hb1⟩; have HK9 := I (HK8.o.below hb1); have CM := I (z0y x L a b w1 h8 (by omega) (by omega)); clear hb1 CJ) | (refine z00 _ rfl (by go_simp) (w.heap.size + 1) x L rfl HK9.o.m ?_) | (go_at_call 48; refine CM.o.mono ?_; rintro e w2 ⟨rfl, hb2⟩; have HK10 := I (HK9.o.below hb2); clear hb2 CM) | (refine zL _ _ rfl (by simp [Region.wanted]) w.heap.size 0 (fun _ _ => false) rfl rfl HK10.o.m1 ?_))
                            obtain ⟨n', L', h1⟩ := HK10.o.m1
                            exact bodyPost_ret (zQ rfl _ _ w.heap.size 0 (fun _ _ => false) (.int .i64 16) rfl rfl (h1.setCells 0 _)) rfl
                              (z18 (zo HK10.o.b (Nat.le_refl _) _ _) H16.o (z05 H16.o (by decide)).1 (z05 H16.o (by decide)).2)
                          · have hm2 : 0 <= mt x L a b := by omega
                            have HX := I (hbx.trans (show (decide (jn x L a b < 0) || decide (mt x L a b < 0)) = false by simp; omega))
                            clear hbx
                            go_wp2_with (first | (refine z00 _ rfl (by go_simp) (w.heap.size + 1) x L rfl HK8.o.m ?_) | (go_at_call 47; refine CJ.o.mono ?_; rintro e w1 ⟨rfl, hb1⟩; have HK9 := I (HK8.o.below hb1); have CM := I (z0y x L a b w1 h8 (by omega) (by omega)); clear hb1 CJ) | (refine z00 _ rfl (by go_simp) (w.heap.size + 1) x L rfl HK9.o.m ?_) | (go_at_call 48; refine CM.o.mono ?_; rintro e w2 ⟨rfl, hb2⟩; have HK10 := I (HK9.o.below hb2); clear hb2 CM))
                            go_roundg g2
                            case measure => omega
                            case rel =>
                              refine ⟨b + 1, by omega, by go_num, fun c hc => ?_, HK10.o⟩
                              by_cases e : c = b
                              · subst e; exact HX.o
                              · exact HB2.o c (by omega)
                      | true =>
                        have HX : Hid (badAt x L a b = true) := I (HTW.o.trans (by simp))
                        have H16 := I (HBAD16.o HX.o)
                        have hz := rzero
                        clear HX
                        go_wp2_with (first | (refine zL _ _ rfl (by simp [Region.wanted]) w.heap.size 0 (fun _ _ => false) rfl rfl HK8.o.m1 ?_))
                        obtain ⟨n', L', h1⟩ := HK8.o.m1
                        exact bodyPost_ret (zQ rfl _ _ w.heap.size 0 (fun _ _ => false) (.int .i64 16) rfl rfl (h1.setCells 0 _)) rfl
                          (z18 (zo HK8.o.b (Nat.le_refl _) _ _) H16.o (z05 H16.o (by decide)).1 (z05 H16.o (by decide)).2)
end
section
open Go.RowKit P
def IntsAt (w:World) (B:Nat) (v:Value) (l:List Int):Prop:=
 l.length<=9223372036854775807/\∃ A c,v= .slice A l.length c/\(0 < l.length->∃ b o,A= some ⟨b,o,none⟩/\b < B/\∀ (i:Nat) x,l[i]?= some x->w.cell? ⟨b,o+i,none⟩= some (.int .i64 x))
section
variable {w w':World} {B:Nat} {v:Value} {l:List Int}
theorem IntsAt.keep (h:IntsAt w B v l) (hc:∀ p:Addr,p.block < B->w'.cell? p= w.cell? p):IntsAt w' B v l:=by
 obtain⟨h0,A,c,rfl,h1⟩:=h
 refine⟨h0,A,c,rfl,fun hp=> ?_⟩
 obtain⟨b,o,rfl,hb,h2⟩:=h1 hp
 exact⟨b,o,rfl,hb,fun i x hx=>(hc ⟨b,o+i,none⟩ hb).trans (h2 i x hx)⟩
theorem IntsAt.below (h:IntsAt w B v l) (hb:Below B w w'):IntsAt w' B v l:=h.keep fun _ hp=>hb.cell hp
theorem IntsAt.drewN (h:IntsAt w B v l) (k:Nat):IntsAt (w.drewN k) B v l:=h
theorem IntsAt.more {B':Nat} (h:IntsAt w B v l) (hB:B<=B'):IntsAt w B' v l:=by
 obtain⟨h0,A,c,rfl,h1⟩:=h
 refine⟨h0,A,c,rfl,fun hp=> ?_⟩
 obtain⟨b,o,rfl,hb,h2⟩:=h1 hp
 exact⟨b,o,rfl,by omega,h2⟩
theorem IntsAt.of_own {base:Nat} (h:OwnInts w base v l) (hl:l.length<=9223372036854775807):IntsAt w w.heap.size v l:=by
 refine⟨hl,?_⟩
 rcases Nat.eq_zero_or_pos l.length with h0|h0
 ·have hl0:l=[]:=List.eq_nil_of_length_eq_zero h0
  subst hl0
  rcases h.2 with ⟨rfl,_⟩|⟨g,cap,cur,rfl,_⟩
  ·exact⟨none,0,rfl,fun h=>absurd h (by simp)⟩
  ·exact⟨_,cap,rfl,fun h=>absurd h (by simp)⟩
 ·rcases h.2 with ⟨_,h1⟩|⟨g,cap,cur,hv,_,hg,_⟩
  ·omega
  ·have hlt:g < w.heap.size:=by
    rcases Nat.lt_or_ge g w.heap.size with h2|h2
    ·exact h2
    ·rw[Array.getElem?_eq_none h2] at hg;cases hg
   refine⟨some ⟨g,0,none⟩,cap,hv,fun _=>⟨g,0,rfl,hlt,fun i x hx=> ?_⟩⟩
   have:=World.ownsRow.cells h (g:=g) (by rw[hv];rfl) i (.int .i64 x) (by simp[ints,hx])
   rw[Addr.add_mid] at this;exact this
theorem OwnInts.mono {base base':Nat} (h:OwnInts w base v l) (hb:base'<=base):OwnInts w base' v l:=by
 refine⟨h.1,?_⟩
 rcases h.2 with h1|⟨g,cap,cur,h1,h2,h3⟩
 ·exact .inl h1
 ·exact .inr ⟨g,cap,cur,h1,by omega,h3⟩
end
end
section
open Go.RowKit P
def allL (n:Nat) (l:List Int):Bool:=l.all (isL n)
def foldJ (n:Nat) (L:Rel) (x:Nat) (l:List Int):Nat:=l.foldl (fun x a=>jj n L x a.toNat) x
theorem zaw (n:Nat) (L:Rel) (x:Nat) (l:List Int) (a:Int):foldJ n L x (l ++ [a])= jj n L (foldJ n L x l) a.toNat:=by simp[foldJ,List.foldl_append]
theorem z8z {n:Nat} {L:Rel} (h:Lat n L):∀ (l:List Int) (x:Nat),x < n->allL n l= true->foldJ n L x l < n
 |[],x,hx,_=>hx
 |a::l,x,hx,ha=>by
  simp only[allL,List.all_cons,Bool.and_eq_true] at ha
  obtain⟨y,rfl,hy⟩:=z0u ha.1
  exact z8z h l _ (h.jj_lt hx (by simpa using hy)) ha.2
theorem zc4 {n:Nat} {l:List Int} {i:Nat} {a:Int} (h:l[i]?= some a) (h1:allL n (l.take i)= true):allL n (l.take (i+1))= isL n a:=by
 rw[z1t h];unfold allL at*;rw[List.all_append,h1];simp
theorem zfF {n:Nat} {l:List Int} {i:Nat} {a:Int} (h:l[i]?= some a) (h1:isL n a= false):allL n l= false:=by
 cases e:allL n l with
 |false=>rfl
 |true=>unfold allL at e;rw[List.all_eq_true] at e;rw[e a (List.mem_of_getElem? h)] at h1;cases h1
def foldV (n:Nat) (L:Rel) (x:Nat) (l:List Int):Value:=if allL n l then .tuple #[.int .i64 (foldJ n L x l),.int .i64 0] else .tuple #[.int .i64 0,.int .i64 3]
theorem z74 {n:Nat} {L:Rel} {x:Nat} {l:List Int} (h:allL n l= true):foldV n L x l= .tuple #[.int .i64 (foldJ n L x l),.int .i64 0]:=by unfold foldV;rw[if_pos h]
theorem zeG {n:Nat} {L:Rel} {x:Nat} {l:List Int} (h:allL n l= false):foldV n L x l= .tuple #[.int .i64 0,.int .i64 3]:=by unfold foldV;rw[h];rfl
theorem zcM (b n:Nat) (L:Rel) (x:Nat) (v:Value) (l:List Int) (B:Nat) (w:World) (hx:x < n) (hlat:LatR w b n L) (hl:IntsAt w B v l):
  Calls Tryz.prog 58 #[.pointer (some ⟨b,0,none⟩),.int .i64 x,v,.func (.func 60) #[.pointer (some ⟨b,0,none⟩)] #[]] w fun e w'=>e= .returned (foldV n L x l)/\w= w':=by
 obtain⟨hlen,A,c,rfl,hcell⟩:=hl
 have HC:=I hcell
 have HL:=I hlat
 clear hcell hlat
 go_enter Tryz.func58,Tryz.ntmps58
 go_wp2
 go_loopg [1,16] l.length (fun g y i wr=>∃ k:Nat,k+g= l.length/\i= .int .i64 k/\y= .int .i64 (foldJ n L x (l.take k))/\allL n (l.take k)= true/\wr= w)
 case atStart=>exact⟨0,by omega,rfl,rfl,rfl,rfl⟩
 case round=>
  obtain⟨k,hk,rfl,rfl,hall,rfl⟩:=hrel
  have HA:=I hall
  cases gk with
  |zero=>
   have hge: ¬ ((k:Int) <(l.length:Int)):=by omega
   clear hall
   have HV:Hid (foldV n L x l= .tuple #[.int .i64 (foldJ n L x (l.take k)),.int .i64 0]):=by
    refine I ?_
    have h1:=HA.o
    rw[List.take_of_length_le (by omega)] at h1 ⊢
    exact z74 h1
   go_wp2
   go_ret2
   exact⟨by rw[HV.o];rfl,rfl⟩
  |succ g=>
   have hlt:(k:Int) <(l.length:Int):=by omega
   obtain⟨a,ha⟩:∃ a,l[k]?= some a:=⟨_,List.getElem?_eq_getElem (by omega)⟩
   obtain⟨bb,o,rfl,_,hc⟩:=HC.o (by omega)
   have d:=hc k a ha
   have HT:=I (z1t ha)
   have HAN:=I (zc4 ha hall)
   have HNO:=I (fun h=>zeG (L:=L) (x:=x) (zfF (n:=n) ha h))
   have HF:=I (z8z HL.o.lat _ x hx hall)
   clear hc ha hall
   cases hla:isL n a with
   |false=>
    have q1:tabE n (foldJ n L x (l.take k):Nat) a= 3:=by unfold tabE;rw[hla];simp
    have HV:=I (HNO.o hla)
    clear hla
    go_wp2_with (go_at_call 60;refine(zck HL.o _ _).mono ?_;rintro e w' ⟨rfl,rfl⟩)
    go_ret2
    exact⟨by rw[HV.o];rfl,rfl⟩
   |true=>
    have HLA:=I hla
    obtain⟨y,rfl,hy⟩:=z0u hla
    have q1:tabE n (foldJ n L x (l.take k):Nat) y= 0:=by unfold tabE;rw[hla,z1F HF.o];rfl
    have q2:jnI n L (foldJ n L x (l.take k):Nat) y= jj n L (foldJ n L x (l.take k)) y:=by unfold jnI;rw[z1F HF.o,z1F hy];simp
    clear hla
    go_wp2_with (go_at_call 60;refine(zck HL.o _ _).mono ?_;rintro e w' ⟨rfl,rfl⟩)
    go_roundg g
    case measure=>omega
    case rel=>exact⟨k+1,by omega,by go_num,by rw[HT.o,zaw];rfl,by rw[HAN.o];exact HLA.o,rfl⟩
theorem zc7 (n:Nat) (L:Rel) (x:Nat) (l:List Int):∃ u v:Int,foldV n L x l= .tuple #[.int .i64 u,.int .i64 v]:=by
 unfold foldV;split
 ·exact⟨_,_,rfl⟩
 ·exact⟨_,_,rfl⟩
theorem zbE (b n:Nat) (L:Rel) (v:Value) (l:List Int) (B:Nat) (w:World) (hlat:LatR w b n L) (hl:IntsAt w B v l):
  Calls Tryz.prog 31 #[.pointer (some ⟨b,0,none⟩),v] w fun e w'=>e= .returned (foldV n L (bot n L) l)/\∃ m,w'= w.drewN m:=by
 have HL:=I hlat
 have HI:=I hl
 obtain⟨u,t,huv⟩:=zc7 n L (bot n L) l
 have HUV:=I huv
 clear hlat hl huv
 go_enter Tryz.func31,Tryz.ntmps31
 go_wp2_with (first|(go_at_call 59;refine(zeo HL.o).mono ?_;rintro e w' ⟨rfl,m,rfl⟩)|(go_at_call 58;refine(zcM b n L (bot n L) v l B _ HL.o.lat.bot_lt (HL.o.drewN _) (HI.o.drewN _)).mono ?_;rintro e w' ⟨rfl,rfl⟩;rw[HUV.o]))
 go_ret2
 exact⟨by rw[HUV.o];rfl,_,rfl⟩
end
end Go.Proofs.YteolfamhmfidbaaGreatDoor

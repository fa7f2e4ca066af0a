/- Parts of a proof: Both1, Both1b, Both11. -/
import Derived.Test.YteolfamhmfidbaaGreatDoorPackI2
import Derived.Test.YteolfamhmfidbaaGreatDoorPackI11
import Derived.Test.YteolfamhmfidbaaGreatDoorPackI37
import Derived.Test.YteolfamhmfidbaaGreatDoorPackI38
set_option maxHeartbeats 8000000
set_option maxRecDepth 100000
set_option linter.unusedVariables false
set_option linter.unusedSimpArgs false
namespace Go.Proofs.YteolfamhmfidbaaGreatDoor
section
open Go.RowKit P
theorem zdl:(Tryz.prog.info? 64).map (fun i=>(i.zero,i.size,i.bytes))= some (some (.agg #[.int .i64 0,.int .i64 0]),2,16):=by kernel_rfl
theorem z5M:∀ ps:List (Int × Int),(z0f ps).length= ps.length*2
 |[]=>rfl
 |p::ps=>by simp only[z0f,List.length_cons,z5M ps];omega
theorem z5K:∀ (ps:List (Int × Int)) (u:Value),u∈z0f ps->u.oneCell'= true
 |[],u,h=>by simp[z0f] at h
 |p::ps,u,h=>by
  simp only[z0f,List.mem_cons] at h
  rcases h with rfl|rfl|h
  ·rfl
  ·rfl
  ·exact z5K ps u h
theorem z4O:∀ (ps:List (Int × Int)) (j:Nat) (u:Value),(z0f ps)[j]?= some u->∃ p,ps[j / 2]?= some p/\((j % 2= 0/\u= .int .i64 p.1)\/(j % 2= 1/\u= .int .i64 p.2))
 |[],j,u,h=>by simp[z0f] at h
 |p::ps,0,u,h=>by simp[z0f] at h;exact⟨p,rfl,.inl ⟨rfl,h.symm⟩⟩
 |p::ps,1,u,h=>by simp[z0f] at h;exact⟨p,rfl,.inr ⟨rfl,h.symm⟩⟩
 |p::ps,j+2,u,h=>by
  obtain⟨q,h1,h2⟩:=z4O ps j u (by simpa [z0f] using h)
  refine⟨q,by rw[show(j+2) / 2= j / 2+1 by omega];simpa using h1,?_⟩
  rw[show(j+2) % 2= j % 2 by omega]
  exact h2
theorem Pairs.src {w:World} {B:Nat} {A:Option Addr} {ps:List (Int × Int)} (h:Pairs w B A ps) (hp:0 < ps.length):∃ ad,A= some ad/\∀ (j:Nat) u,(z0f ps)[j]?= some u->w.cell? (ad.add j)= some u:=by
 obtain⟨b,o,rfl,_,hc⟩:=h.2 hp
 refine⟨_,rfl,fun j u hu=> ?_⟩
 rw[Addr.add_mid]
 obtain⟨p,hp,hcase⟩:=z4O ps j u hu
 obtain⟨c0,c1,_⟩:=hc _ p hp
 rcases hcase with ⟨h1,rfl⟩|⟨h1,rfl⟩
 ·rw[show o+j= o+j / 2*2 by omega];exact c0
 ·rw[show o+j= o+j / 2*2+1 by omega];exact c1
theorem Pairs.ok {w:World} {B:Nat} {A:Option Addr} {ps:List (Int × Int)} (h:Pairs w B A ps):okPs ps:=by
 intro p hp
 obtain⟨i,hi⟩:=List.mem_iff_getElem?.1 hp
 have hl:0 < ps.length:=by have:=(List.getElem?_eq_some_iff.1 hi).1;omega
 obtain⟨b,o,_,_,hc⟩:=h.2 hl
 exact⟨(hc i p hi).2.2.1,(hc i p hi).2.2.2⟩
theorem Pairs.below {w w':World} {B:Nat} {A:Option Addr} {ps:List (Int × Int)} (h:Pairs w B A ps) (hb:Below B w w'):Pairs w' B A ps:=by
 refine⟨h.1,fun hl=> ?_⟩
 obtain⟨b,o,rfl,hlt,hc⟩:=h.2 hl
 refine⟨b,o,rfl,hlt,fun i p hp=> ?_⟩
 obtain⟨c0,c1,c2⟩:=hc i p hp
 exact⟨(hb.cell (p:=⟨b,o+i*2,none⟩) hlt).trans c0,(hb.cell (p:=⟨b,o+i*2+1,none⟩) hlt).trans c1,c2⟩
theorem Pairs.more {w:World} {B B':Nat} {A:Option Addr} {ps:List (Int × Int)} (h:Pairs w B A ps) (hB:B<=B'):Pairs w B' A ps:=by
 refine⟨h.1,fun hl=> ?_⟩
 obtain⟨b,o,rfl,hlt,hc⟩:=h.2 hl
 exact⟨b,o,rfl,by omega,hc⟩
theorem Pairs.of_own {w:World} {base n:Nat} {v:Value} {ps:List (Int × Int)} (hn:ps.length= n) (h:w.ownsRow base 64 2 v n (z0f ps)) (hw:okPs ps) (hl:ps.length<=9223372036854775807):
  ∃ A c,v= .slice A n c/\Pairs w w.heap.size A ps:=by
 subst hn
 rcases h.2 with ⟨rfl,h0⟩|⟨g,cap,cur,rfl,_,hg,_⟩
 ·exact⟨none,0,by rw[h0],hl,fun hp=>by omega⟩
 ·have hlt:g < w.heap.size:=by
   rcases Nat.lt_or_ge g w.heap.size with h2|h2
   ·exact h2
   ·rw[Array.getElem?_eq_none h2] at hg;cases hg
  refine⟨_,cap,rfl,hl,fun hp=>⟨g,0,rfl,hlt,fun i p hip=> ?_⟩⟩
  obtain⟨k0,k1⟩:=z4b hip
  have c0:=World.ownsRow.cells h (g:=g) rfl _ _ k0
  have c1:=World.ownsRow.cells h (g:=g) rfl _ _ k1
  rw[Addr.add_mid] at c0 c1
  obtain⟨h3,h4⟩:=hw p (List.mem_of_getElem? hip)
  exact⟨c0,c1,h3,h4⟩
theorem z6a (a:Act) (o:Oper) {x:Operand} (ho:o.op= .load 36 x) (b n:Nat) (L:Rel) {w:World} (hx:a.eval x= .pointer (some ⟨b,0,none⟩)) (hm:Rm w b n L):
  (execOp a.eval o).run Tryz.prog w= .ok (.value (.agg (rv n L))) w:=by
 unfold execOp
 simp only[ho,hx,Instr.loadAt,Instr.sureAddr,Sem.run_bind,Sem.run_pure,Result.andThen_ok,
  run_loadVar_mid w b 0 36 (rl n L) _ hm.range Tryz.underlying36 rfl (by rw[z2a];kernel_rfl)]
 rfl
theorem zcw {o:Oper} {a:Act} {w:World} {K:Act->World->Prop} {Q:Exit->Act->World->Prop} (x y:Operand) (ho:o.op= .store 36 x y)
  (b n:Nat) (L:Rel) (hx:a.eval x= .pointer (some ⟨b,0,none⟩)) (hy:a.eval y= .agg (rv n L)) (hm:∃ n' L',Rm w b n' L')
  (h:K (a.put o.dst undef) (w.setCells b 0 (rl n L))):o.wp Tryz.prog a w K Q:=by
 obtain⟨n',L',hm⟩:=hm
 exact wp_store_mid 36 x y ho b 0 (rv n L) hx hy (by rw[z3e];exact hm.there) (by rw[z3e];kernel_rfl) (zbK n L) h
theorem z6f {ops:Array Oper} {S:World->Prop} {Q:Exit->Act->World->Prop} {i:Nat} {r:List (Nat × Bool)} {a:Act} {w:World} (o:Oper) (x y:Operand) (hi:ops[i]?= some o)
  (ho:o.op= .store 36 x y) (hw:Region.wanted o (yielded ops a.tmps)= true) (b n:Nat) (L:Rel) (hx:a.eval x= .pointer (some ⟨b,0,none⟩)) (hy:a.eval y= .agg (rv n L))
  (hm:∃ n' L',Rm w b n' L') (hS:S (w.setCells b 0 (rl n L))) (h:wpOrd Tryz.prog ops S Q r (a.put o.dst undef) (w.setCells b 0 (rl n L))):wpOrd Tryz.prog ops S Q ((i,false)::r) a w:=
 z4A o hi hw fun _ hK=>zcw x y ho b n L hx hy hm (hK _ _ hS h)
theorem z2K {fn:Func} {p q r:Tmp} (h:fn.results= #[.tmp q,.cell p 36,.tmp r]) (tmps:Array Value) (w:World) (g n:Nat) (L:Rel) (u v:Value)
  (hp:tmps.getD p undef= .pointer (some ⟨g,0,none⟩)) (hq:tmps.getD q undef= u) (hr:tmps.getD r undef= v) (hm:Rm w g n L):(results fn tmps).run Tryz.prog w= .ok (.tuple #[u,.agg (rv n L),v]) w:=by
 have hp':tmps[p]?.getD undef= .pointer (some ⟨g,0,none⟩):=by simpa using hp
 have hq':tmps[q]?.getD undef= u:=by simpa using hq
 have hr':tmps[r]?.getD undef= v:=by simpa using hr
 have hl:=run_loadVar_mid (P:=Tryz.prog) w g 0 36 (rl n L) _ hm.range Tryz.underlying36 rfl (by rw[z2a];kernel_rfl)
 simp[results,h,hp',hq',hr',asAddr,hl,rv]
theorem LatR.far {w:World} {b n:Nat} {L:Rel} (h:LatR w b n L) {b':Nat} (hb:b≠b') (vs:List Value):∀ o,LatR (w.setCells b' o vs) b n L:=by
 induction vs generalizing w with
 |nil=>intro o;exact h
 |cons v vs ih=>
  intro o
  exact ih (w:=w.setCell ⟨b',o,none⟩ v) ⟨h.at_.cells fun p=>World.cell?_setCell_other w _ _ v (fun e=>hb (by injection e with e1 _ _;exact e1.symm)),h.lat,h.le8,by rw[z2E];exact h.lt⟩ (o+1)
def zdJ (w:World) (n:Int) (ps:List (Int × Int)) (e:Ending) (w':World):Prop:=
 Below w.heap.size w w'/\((makeE n ps≠0/\∃ N L,e= .returned (.tuple #[.pointer none,.agg (rv N L),.bool false]))\/
  (makeE n ps= 0/\∃ k b:Nat,n= k/\e= .returned (.tuple #[.pointer (some ⟨b,0,none⟩),.agg (rv k (ordOf k ps)),.bool true])/\LatR w' b k (ordOf k ps)))
theorem zd3 (n:Int) (A:Option Addr) (l c:Nat) (w:World) (h:n < 1\/8 < n\/64 < l):
  Calls Tryz.prog 21 #[.int .i64 n,.slice A l c] w fun e w'=>e= .returned (.tuple #[.agg (rv 0 fun _ _=>false),.int .i64 2])/\Below w.heap.size w w':=by
 have hz:=rzero
 have HM:=I (Rm.new w 0 (fun _ _=>false) 36)
 have HB:=I (zo ((Below.refl w.heap.size w).alloc (Nat.le_refl _) (.cells (rv 0 fun _ _=>false) 36)) (Nat.le_refl _) (rl 0 fun _ _=>false) 0)
 by_cases h1:n < 1
 ·have t1:decide (n < 1)= true:=by simp;omega
  go_enter Tryz.func21,Tryz.ntmps21
  go_wp2_with (refine zL _ _ rfl (by simp[Region.wanted]) w.heap.size 0 (fun _ _=>false) rfl rfl ⟨_,_,HM.o⟩ ?_)
  exact bodyPost_ret (zQ rfl _ _ w.heap.size 0 (fun _ _=>false) (.int .i64 2) rfl rfl (HM.o.setCells 0 _)) rfl ⟨rfl,HB.o⟩
 ·have t1:decide (n < 1)= false:=by simp;omega
  by_cases h2:8 < n
  ·have t2:decide ((8:Int) < n)= true:=by simp;omega
   go_enter Tryz.func21,Tryz.ntmps21
   go_wp2_with (refine zL _ _ rfl (by simp[Region.wanted]) w.heap.size 0 (fun _ _=>false) rfl rfl ⟨_,_,HM.o⟩ ?_)
   exact bodyPost_ret (zQ rfl _ _ w.heap.size 0 (fun _ _=>false) (.int .i64 2) rfl rfl (HM.o.setCells 0 _)) rfl ⟨rfl,HB.o⟩
  ·have t2:decide ((8:Int) < n)= false:=by simp;omega
   have t3:decide ((64:Int) < l)= true:=by simp;omega
   go_enter Tryz.func21,Tryz.ntmps21
   go_wp2_with (refine zL _ _ rfl (by simp[Region.wanted]) w.heap.size 0 (fun _ _=>false) rfl rfl ⟨_,_,HM.o⟩ ?_)
   exact bodyPost_ret (zQ rfl _ _ w.heap.size 0 (fun _ _=>false) (.int .i64 2) rfl rfl (HM.o.setCells 0 _)) rfl ⟨rfl,HB.o⟩
theorem z73 (n:Int) (A:Option Addr) (l c:Nat) (ps:List (Int × Int)) (w:World) (hl:ps.length= l) (hp:Pairs w w.heap.size A ps):
  Calls Tryz.prog 21 #[.int .i64 n,.slice A l c] w (z4r w n ps):=by
 subst hl
 rcases z3a n ps with ⟨h,e⟩|⟨k,rfl,h1,h8,hl,_⟩
 ·refine(zd3 n A _ c w h).mono fun e' w' ⟨he,hb⟩=> ?_
  subst he
  exact z18 hb e (z05 e (by decide)).1 (z05 e (by decide)).2
 ·exact zdO k A c ps w hp h1 h8 hl
end
section
open Go.RowKit P
def zfC (w:World) (n:Int) (ps:List (Int × Int)) (e:Ending) (w':World):Prop:=
 Below w.heap.size w w'/\((∃ N L,e= .returned (.tuple #[.pointer none,.agg (rv N L),.bool false]))\/
  (ps.length<=200/\makeE n ps= 0/\∃ k b:Nat,n= k/\e= .returned (.tuple #[.pointer (some ⟨b,0,none⟩),.agg (rv k (ordOf k ps)),.bool true])/\LatR w' b k (ordOf k ps)))
end
section
open Go.RowKit P
theorem zaX (n:Int) (A:Option Addr) (l c:Nat) (ps:List (Int × Int)) (w:World) (hl:ps.length= l) (hp:Pairs w w.heap.size A ps) (h2:l<=200):
  Calls Tryz.prog 5 #[.int .i64 n,.slice A l c] w (zdJ w n ps):=by
 have t1:decide ((200:Int) < l)= false:=by simp;omega
 have hz:=rzero
 have HP:=I hp
 obtain⟨i0,hi,hz0,hz1,hz2⟩:=info_parts zdl
 have HI:=I hi
 have HZ0:=I hz0
 have HZ1:=I hz1
 have HZ2:=I hz2
 have HL:=I hl
 clear hi hz0 hz1 hz2 hp hl
 have HM:=I (Rm.new w 0 (fun _ _=>false) 36)
 have hw1:=(z7V (w.alloc (.cells (rv 0 fun _ _=>false) 36)) 64 2 w.heap.size (by simp))
 rw[World.size_alloc] at hw1
 have HW1:=I hw1
 clear hw1
 have HB1:=I (((Below.refl w.heap.size w).alloc (Nat.le_refl _) (.cells (rv 0 fun _ _=>false) 36)).alloc (by simp) (.cells #[] 64))
 go_enter Tryz.func5,Tryz.ntmps5
 go_wp2_with (at_builtin;refine z30 rfl _ _ 22 rfl w.heap.size 64 i0 (.agg #[.int .i64 0,.int .i64 0]) 2 16 Tryz.underlying22 HI.o HZ0.o HZ1.o HZ2.o rfl (by decide) _ 0 [] rfl HW1.o A l c (z0f ps) rfl ?c1 ?c2 (z5K ps) ?c3 ?c4 ?c5 ?_)
 case c1=>rw[z5M,HL.o]
 case c2=>intro hl;exact HP.o.src (by rw[HL.o];exact hl)|>.imp fun ad h=>⟨h.1,fun j u hu=>(HB1.o.cell (p:=ad.add j) (by
  obtain⟨b,o,e,hb,_⟩:=HP.o.2 (by rw[HL.o];exact hl)
  have:ad=⟨b,o,none⟩:=by have:=h.1;rw[e] at this;injection this with this;exact this.symm
  subst this
  rw[Addr.add_mid];exact hb)).trans (h.2 j u hu)⟩
 case c3=>unfold maxLen;omega
 case c4=>omega
 case c5=>simp;omega
 intro v' w1 hown hg
 have hb1:Below w.heap.size w w1:=HB1.o.grown hg (by simp;omega) (fun j hj=>by simp[Value.ownBlock] at hj;omega)
 obtain⟨A',c',rfl,hps⟩:=Pairs.of_own (ps:=ps) HL.o hown HP.o.ok (by rw[HL.o];omega)
 have HB2:=I hb1
 have HM1:=I (Rm.below (w':=w1) (HM.o.below ((Below.refl _ _).alloc (Nat.le_refl _) (.cells #[] 64)) (by simp)) (B:=w.heap.size+1) ⟨hg.os,hg.tape,hg.output,hg.size,fun j hj=>hg.block j (by simp;omega) (by simp only[Value.ownBlock];intro e;injection e with e;omega)⟩ (by omega))
 have hz1:w.heap.size+1 < w1.heap.size:=by have:=hg.size;simp at this;omega
 clear hown hg hb1
 by_cases h0:makeE n ps= 0
 ·obtain⟨k,rfl⟩:∃ k:Nat,n= k:=by
   rcases z3a n ps with ⟨_,h⟩|⟨k,rfl,_⟩
   ·rw[h] at h0;cases h0
   ·exact⟨k,rfl⟩
  have CM:=I (zaa k A' l c' ps w1 HL.o hps h0)
  have H0:=I h0
  clear hps h0
  go_wp2_with fail
  refine CM.o.mono ?_
  rintro e w2 ⟨rfl,hlat,hb⟩
  have HB3:=I (HB2.o.trans (hb.mono (by omega)))
  have HM2:=I (HM1.o.below hb (by omega))
  have hz2:w.heap.size+1 < w2.heap.size:=by have:=hb.size;omega
  have CR:=I (z73 k A l c ps w2 HL.o ((HP.o.below HB3.o).more (by omega)))
  have HLT:=I hlat
  clear hlat
  clear hb
  go_wp2_with fail
  refine CR.o.mono ?_
  rintro e w3 ⟨rfl,hb⟩
  have HB4:=I (HB3.o.trans (hb.mono (by omega)))
  have HM3:=I (HM2.o.below hb (by omega))
  have hz3:w.heap.size+1 < w3.heap.size:=by have:=hb.size;omega
  have HM4:=I (Rm.new w3 0 (fun _ _=>false) 36)
  have HLT2:=I (HLT.o.here hb)
  clear hb
  go_wp2_with (refine zL _ _ rfl (by simp[Region.wanted]) w3.heap.size (rmkN k ps) (rmkL k ps) rfl rfl ⟨_,_,HM4.o⟩ ?_)
  have HM5:=I ((HM3.o.below ((Below.refl _ _).alloc (Nat.le_refl _) (.cells (rv 0 fun _ _=>false) 36)) (by omega)).far (b':=w3.heap.size) (by omega) (rl (rmkN k ps) (rmkL k ps)) 0)
  have HM6:=I (HM4.o.setCells (rmkN k ps) (rmkL k ps))
  have HB5:=I (zo (HB4.o.alloc (by omega) (.cells (rv 0 fun _ _=>false) 36)) (b:=w3.heap.size) (by omega) (rl (rmkN k ps) (rmkL k ps)) 0)
  have HLT3:=I ((HLT2.o.alloc (.cells (rv 0 fun _ _=>false) 36)).below (zo (Below.refl w3.heap.size _) (Nat.le_refl _) (rl (rmkN k ps) (rmkL k ps)) 0) HLT2.o.lt)
  have hne:w.heap.size≠w3.heap.size:=by omega
  generalize World.setCells _ _ _ _= W at*
  clear HM4 HM3 HM2 HM1
  refine zD [(0,true),(1,true),(2,true),(3,true),(4,true),(5,false),(6,true)] (fun w'=>Rm w' w3.heap.size (rmkN k ps) (rmkL k ps)) (by kernel_rfl) (by kernel_rfl) (by kernel_rfl) rfl (by intro c a d v w h;cases d<;>exact h) ?_
  have hs:=HM6.o.drew
  refine zi _ _ _ _ rfl rfl rfl (by simp[Region.wanted]) hs rfl ?_
  refine z1l _ (.agg (rv (rmkN k ps) (rmkL k ps))) rfl (by simp[Region.wanted]) hs (fun w' hw'=>z6a _ _ rfl _ _ _ rfl hw') ?_
  refine zi _ _ _ _ rfl rfl rfl (by simp[Region.wanted]) hs rfl ?_
  refine z1l _ (.bool true) rfl (by simp[Region.wanted]) hs (fun w' _=>by go_simp) ?_
  refine z0M _ _ _ _ rfl rfl rfl (by simp[Region.wanted]) hs rfl ?_
  refine z6f _ _ _ rfl rfl (by simp[Region.wanted]) w.heap.size (rmkN k ps) (rmkL k ps) rfl rfl ⟨_,_,HM5.o.drew⟩ (hs.far hne.symm (rl (rmkN k ps) (rmkL k ps)) 0) ?_
  refine z0M _ _ _ _ rfl rfl rfl (by simp[Region.wanted]) (hs.far hne.symm _ 0) rfl ?_
  refine z0d ?_
  go_simp
  go_wp2
  refine bodyPost_ret (z2K rfl _ _ w.heap.size (rmkN k ps) (rmkL k ps) (.pointer (some ⟨w1.heap.size,0,none⟩)) (.bool true) rfl rfl rfl (HM5.o.drew.setCells _ _)) rfl ?_
  have e1:rmkN k ps= k:=by unfold rmkN;rw[H0.o];simp
  have e2:rmkL k ps= ordOf k ps:=by unfold rmkL;rw[H0.o];simp
  rw[e1,e2]
  exact⟨zo HB5.o.drew (Nat.le_refl _) _ _,.inr ⟨H0.o,k,w1.heap.size,rfl,rfl,HLT3.o.drew.far (b':=w.heap.size) (by omega) _ 0⟩⟩
 ·have CM:=I (zfH n A' l c' ps (makeE n ps) w1 HL.o hps rfl h0)
  have H0:=I h0
  clear hps h0
  go_wp2_with fail
  refine CM.o.mono ?_
  rintro e w2 ⟨rfl,hb⟩
  have HB3:=I (HB2.o.trans (hb.mono (by omega)))
  have HM2:=I (HM1.o.below hb (by omega))
  have hz2:w.heap.size+1 < w2.heap.size:=by have:=hb.size;omega
  have CR:=I (z73 n A l c ps w2 HL.o ((HP.o.below HB3.o).more (by omega)))
  clear hb
  go_wp2_with fail
  refine CR.o.mono ?_
  rintro e w3 ⟨rfl,hb⟩
  have HB4:=I (HB3.o.trans (hb.mono (by omega)))
  have HM3:=I (HM2.o.below hb (by omega))
  have hz3:w.heap.size+1 < w3.heap.size:=by have:=hb.size;omega
  have HM4:=I (Rm.new w3 0 (fun _ _=>false) 36)
  clear hb
  go_wp2_with (refine zL _ _ rfl (by simp[Region.wanted]) w3.heap.size (rmkN n ps) (rmkL n ps) rfl rfl ⟨_,_,HM4.o⟩ ?_)
  have HM5:=I ((HM3.o.below ((Below.refl _ _).alloc (Nat.le_refl _) (.cells (rv 0 fun _ _=>false) 36)) (by omega)).far (b':=w3.heap.size) (by omega) (rl (rmkN n ps) (rmkL n ps)) 0)
  have HM6:=I (HM4.o.setCells (rmkN n ps) (rmkL n ps))
  have HB5:=I (zo (HB4.o.alloc (by omega) (.cells (rv 0 fun _ _=>false) 36)) (b:=w3.heap.size) (by omega) (rl (rmkN n ps) (rmkL n ps)) 0)
  have hne:w.heap.size≠w3.heap.size:=by omega
  generalize World.setCells _ _ _ _= W at*
  clear HM4 HM3 HM2 HM1
  refine zD [(0,true),(1,true),(2,true),(3,true),(4,true),(5,false),(6,true)] (fun w'=>Rm w' w3.heap.size (rmkN n ps) (rmkL n ps)) (by kernel_rfl) (by kernel_rfl) (by kernel_rfl) rfl (by intro c a d v w h;cases d<;>exact h) ?_
  have hs:=HM6.o.drew
  refine zi _ _ _ _ rfl rfl rfl (by simp[Region.wanted]) hs rfl ?_
  refine z1l _ (.agg (rv (rmkN n ps) (rmkL n ps))) rfl (by simp[Region.wanted]) hs (fun w' hw'=>z6a _ _ rfl _ _ _ rfl hw') ?_
  refine zi _ _ _ _ rfl rfl rfl (by simp[Region.wanted]) hs rfl ?_
  refine z1l _ (.bool false) rfl (by simp[Region.wanted]) hs (fun w' _=>by go_simp) ?_
  refine z0M _ _ _ _ rfl rfl rfl (by simp[Region.wanted]) hs rfl ?_
  refine z6f _ _ _ rfl rfl (by simp[Region.wanted]) w.heap.size (rmkN n ps) (rmkL n ps) rfl rfl ⟨_,_,HM5.o.drew⟩ (hs.far hne.symm (rl (rmkN n ps) (rmkL n ps)) 0) ?_
  refine z0M _ _ _ _ rfl rfl rfl (by simp[Region.wanted]) (hs.far hne.symm _ 0) rfl ?_
  refine z0d ?_
  go_simp
  go_wp2
  refine bodyPost_ret (z2K rfl _ _ w.heap.size (rmkN n ps) (rmkL n ps) (.pointer none) (.bool false) rfl rfl rfl (HM5.o.drew.setCells _ _)) rfl ?_
  exact⟨zo HB5.o.drew (Nat.le_refl _) _ _,.inl ⟨H0.o,_,_,rfl⟩⟩
theorem z9m (n:Int) (A:Option Addr) (l c:Nat) (w:World) (h2:200 < l):
  Calls Tryz.prog 5 #[.int .i64 n,.slice A l c] w fun e w'=>e= .returned (.tuple #[.pointer none,.agg (rv 0 fun _ _=>false),.bool false])/\Below w.heap.size w w':=by
 have t1:decide ((200:Int) < l)= true:=by simp;omega
 have hz:=rzero
 have HM:=I (Rm.new w 0 (fun _ _=>false) 36)
 have HB:=I (zo ((Below.refl w.heap.size w).alloc (Nat.le_refl _) (.cells (rv 0 fun _ _=>false) 36)) (Nat.le_refl _) (rl 0 fun _ _=>false) 0)
 go_enter Tryz.func5,Tryz.ntmps5
 go_wp2_with (refine zL _ _ rfl (by simp[Region.wanted]) w.heap.size 0 (fun _ _=>false) rfl rfl ⟨_,_,HM.o⟩ ?_)
 exact bodyPost_ret (z2K rfl _ _ w.heap.size 0 (fun _ _=>false) (.pointer none) (.bool false) rfl rfl rfl (HM.o.setCells 0 _)) rfl ⟨rfl,HB.o⟩
theorem zav (n:Int) (A:Option Addr) (l c:Nat) (ps:List (Int × Int)) (w:World) (hl:ps.length= l) (hp:Pairs w w.heap.size A ps):
  Calls Tryz.prog 5 #[.int .i64 n,.slice A l c] w (zfC w n ps):=by
 by_cases h:l<=200
 ·refine(zaX n A l c ps w hl hp h).mono fun e w' hh=> ?_
  rcases hh.2 with ⟨_,h1⟩|⟨h0,h1⟩
  ·exact⟨hh.1,.inl h1⟩
  ·exact⟨hh.1,.inr ⟨by omega,h0,h1⟩⟩
 ·exact(z9m n A l c w (by omega)).mono fun e w' hh=>⟨hh.2,.inl ⟨_,_,hh.1⟩⟩
end
end Go.Proofs.YteolfamhmfidbaaGreatDoor

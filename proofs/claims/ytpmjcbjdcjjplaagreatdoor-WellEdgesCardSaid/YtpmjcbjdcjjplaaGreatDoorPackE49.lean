/- Parts of a proof: WEd. -/
import Derived.Test.YtpmjcbjdcjjplaaGreatDoorPackE44
import Derived.Test.YtpmjcbjdcjjplaaGreatDoorPackE48
set_option maxHeartbeats 8000000
set_option maxRecDepth 100000
set_option linter.unusedVariables false
set_option linter.unusedSimpArgs false
theorem Go.Calls.k49 {P:Go.Program} {f:Go.FuncId} {args:Array Go.Value} {w:Go.World} {v:Go.Ending} {R:Go.World->Prop} {Q:Go.Ending->Go.World->Prop} (h:Go.Calls P f args w fun e w'=>e= v/\R w') (k:∀ w',Go.RowKit.Hid (R w')->Q v w'):Go.Calls P f args w Q:=Go.Proofs.YtpmjcbjdcjjplaaGreatDoor.zg h k
theorem Go.Calls.e49 {P:Go.Program} {f:Go.FuncId} {args:Array Go.Value} {w:Go.World} {v:Go.Ending} {Q:Go.Ending->Go.World->Prop} (h:Go.Calls P f args w fun e w'=>e= v/\w'= w) (k:Q v w):Go.Calls P f args w Q:=Go.Proofs.YtpmjcbjdcjjplaaGreatDoor.zd h k
namespace Go.Proofs.YtpmjcbjdcjjplaaGreatDoor
open Go Go.RowKit P
theorem wlenE (m:ModelT) (tb:NodeT->Bool):(wellM m tb).length<=200:=by
 unfold wellM;split
 ·unfold z0g
  split
  ·rename_i hs
   unfold sizeB at hs;simp only[Bool.and_eq_true,decide_eq_true_eq] at hs;have h1:=z0H (z5y m.labels.toNat (ordOf m.labels.toNat m.order) m) m.vars.length;have h2:=z0H (z5o m.labels.toNat (ordOf m.labels.toNat m.order) m) m.msgs.length;have h3:=z0H (z5S m.labels.toNat (ordOf m.labels.toNat m.order) m) m.grants.length;have h4:=z0H (z7w m.labels.toNat (ordOf m.labels.toNat m.order) m tb) m.nodes.length;have h5:=z2J (z1p m) 7 (-1);simp only[List.length_append];omega
  ·simp
 ·simp
theorem z8K {w:World} {B:Nat} {ks:List Value} {x:NodeT} (h:NodeAt w B ks x):∃ A c,ks[0]?= some (.int .i64 x.kind)/\ks[2]?= some (.slice A x.next.length c)/\ks[26]?= some (.int .i64 x.catch_):=by
 obtain⟨⟨vn,vc,ce,cb,rfl,h2,h3,h4, -, -, -, -⟩, -⟩:=h;obtain⟨-,A,c,rfl, -⟩:=h4;refine⟨A,c,by simp,by simp,?_⟩;rw[List.getElem?_append_right (by simp[h2,h3])];simp[h2,h3]
section
variable {P:Program} {ops:Array Oper} {S:World->Prop} {Q:Exit->Act->World->Prop} {i:Nat} {r:List (Nat × Bool)} {a:Act} {w:World} {o:Oper}
theorem z0D (d:Option Tmp) (o:Oper) (hi:ops[i]?= some o) (hd:o.dst= d) (hw:Region.wanted o (yielded ops a.tmps)= false) (hS:S w) (h:wpOrd P ops S Q r (a.put d undef) w):wpOrd P ops S Q ((i,true)::r) a w:=by subst hd;exact z8P o hi hw hS h
end
theorem wellEdges_walk (W:World) (htab:TabP W) (mcs:List Value) (m:ModelT) (hm:ModelAt W W.heap.size mcs m):
  Calls Tryz.prog 5 #[.agg ⟨mcs⟩] W fun e W'=>e= .returned (.bool true)/\Below W.heap.size W W':=by
 have a2:Hid (∀ z,Below W.heap.size W z->Calls Tryz.prog 6 #[] z fun e w'=>e= .returned (.bool true)/\Below z.heap.size z w'):=I fun z hz=>zfs z (htab.next hz);have j8:=I htab;obtain⟨OA,GA,VA,MA,NA,oc,gc,vc,mc,nc,rfl, -, -, -, -,d0⟩:=z1o hm;obtain⟨-,l9,m8,e1,d0⟩:=d0;injection e1 with e1 _ e3;subst e1 e3;have f8:=I d0;have HM:=I hm;have HB:=I (zc W (.cells ⟨zF m OA GA VA MA NA oc gc vc mc nc⟩ 27));have HW:=I (Whole.new W (zF m OA GA VA MA NA oc gc vc mc nc) 27);have a3:Hid ((zF m OA GA VA MA NA oc gc vc mc nc).length= 6):=I rfl;clear hm htab d0;go_enter Tryz.func5,Tryz.ntmps5;go_upto_region 1 with (fail);generalize W.alloc (.cells ⟨zF m OA GA VA MA NA oc gc vc mc nc⟩ 27)= V at*;obtain⟨mb,e9⟩:∃ q,W.heap.size= q:=⟨_,rfl⟩;rw[e9] at HW
 (try rw[e9])
 have HR:Hid (∀ z,Below V.heap.size V z->z.rangeAt mb 0 (zF m OA GA VA MA NA oc gc vc mc nc)):=I fun z hz=>(HW.o.keep (hz.block _ HW.o.lt)).range;have K:Hid (∀ z,Below V.heap.size V z->Below W.heap.size W z):=I fun z hz=>HB.o.trans (hz.mono HB.o.size);have e4:Hid (∀ z,Below V.heap.size V z->ModelAt z z.heap.size (zF m OA GA VA MA NA oc gc vc mc nc) m):=I fun z hz=>(HM.o.under (K.o z hz)).more (K.o z hz).size;clear e9;have e6:=I (fun z (hz:Below V.heap.size V z)=>zgJ m (zF m OA GA VA MA NA oc gc vc mc nc) z (e4.o z hz));have c4:=I (fun z (hz:Below V.heap.size V z)=>z2R m (zF m OA GA VA MA NA oc gc vc mc nc) z (e4.o z hz) (j8.o.next (K.o z hz)));have b3:=I (wlenE m (zP m));obtain⟨L,hL⟩:∃ L,wellM m (zP m)= L:=⟨_,rfl⟩;have f7:=I hL;rw[hL] at b3 c4;clear hL;have h6:(L.length:Int)<=200:=by have:=b3.o;omega
 by_cases hL0:0 < L.length;case pos=>
  have t0:(0:Int) <(L.length:Int):=by omega
  go_wp2_with (first|(go_at_call 6;(with_reducible refine(a2.o _ (K.o V (Below.refl _ _))).k49 ?_);intro y1 a1)|(go_at_call 6;(with_reducible refine(a2.o _ (K.o _ a5.o)).k49 ?_);intro y4 a9)|(go_at_call 6;(with_reducible refine(a2.o _ (K.o _ N.o)).k49 ?_);intro y4 a9)|((with_reducible refine z8 tyK27 _ rfl ?_ (HR.o _ a1.o) rfl a3.o ?_);exact wA rfl)|((with_reducible refine z8 tyK27 _ rfl ?_ (HR.o _ N.o) rfl a3.o ?_);exact wA rfl)|(go_at_call 7;refine(e6.o _ a1.o).mono ?_;rintro e y2 ⟨b,rfl,O,C⟩;have N:=I (beT a1.o O);have HS:=I C;clear O C;cases b)|(go_at_call 8;refine(c4.o _ N.o).mono ?_;rintro e y3 ⟨lv,rfl,ho,O⟩;obtain⟨FA,fc,rfl⟩:∃ A c,lv= .slice A L.length c:=z0t ho;have HO:=I ho;have a5:=I (beT N.o O);clear ho O));all_goals
   go_ret;first|exact⟨rfl,K.o _ (beT a5.o a9.o)⟩|exact⟨rfl,K.o _ (beT N.o a9.o)⟩
 have t0: ¬ (0:Int) <(L.length:Int):=by omega
 go_upto_region 3 with (first|(go_at_call 6;(with_reducible refine(a2.o _ (K.o V (Below.refl _ _))).k49 ?_);intro y1 a1)|(go_at_call 6;(with_reducible refine(a2.o _ (K.o _ a5.o)).k49 ?_);intro y4 a9)|(go_at_call 6;(with_reducible refine(a2.o _ (K.o _ N.o)).k49 ?_);intro y4 a9)|((with_reducible refine z8 tyK27 _ rfl ?_ (HR.o _ a1.o) rfl a3.o ?_);exact wA rfl)|((with_reducible refine z8 tyK27 _ rfl ?_ (HR.o _ N.o) rfl a3.o ?_);exact wA rfl)|(go_at_call 7;refine(e6.o _ a1.o).mono ?_;rintro e y2 ⟨b,rfl,O,C⟩;have N:=I (beT a1.o O);have HS:=I C;clear O C;cases b)|(go_at_call 8;refine(c4.o _ N.o).mono ?_;rintro e y3 ⟨lv,rfl,ho,O⟩;obtain⟨FA,fc,rfl⟩:∃ A c,lv= .slice A L.length c:=z0t ho;have HO:=I ho;have a5:=I (beT N.o O);clear ho O))
 ·go_ret
  exact⟨rfl,K.o _ (beT N.o a9.o)⟩
 have g0:Hid (WellOk m (zP m)):=I (zfn (by rw[f7.o];exact List.eq_nil_of_length_eq_zero (by omega)));have a0:=I (HS.o (by first|rfl|trivial));clear f7 b3 c4 hL0 t0 h6 e6 a2 HO HS;obtain⟨G,hG⟩:∃ z,z= y3:=⟨_,rfl⟩;subst hG;have e2:=I a5.o;have l7:=I (K.o _ a5.o);clear a1 N a5;have c6:=I (z9w a0.o);have c5:Hid ((zH (gM m)).length<=10000):=I (by have:=c6.o;omega);have f9:Hid ((gM m).length<=10000):=I (by unfold gM;rw[List.length_map];have:=a0.o.nodes;omega);have e0:Hid (∀ z,Below V.heap.size V z->GraphAt z z.heap.size (.slice NA m.nodes.length nc) (gM m)):=I fun z hz=>z9A (e4.o z hz);have d9:Hid (∀ z,Below V.heap.size V z->Calls Tryz.prog 14 #[.agg ⟨zF m OA GA VA MA NA oc gc vc mc nc⟩] z (z80 z (zH (gM m)))):=I fun z hz=>z48 (gM m) _ _ _ _ _ _ z (e0.o z hz) c5.o;have e5:Hid (∀ z a p,Below V.heap.size V z->Calls Tryz.prog 15 #[.agg ⟨zF m OA GA VA MA NA oc gc vc mc nc⟩,.int .i64 a,.int .i64 p] z fun e w'=>e= .returned (.int .i64 (outK (zH (gM m)) a p))/\Below z.heap.size z w'):=I fun z a p hz=>zg1 (gM m) a p _ _ _ _ _ _ z (e0.o z hz) c5.o;have j3:Hid (∀ z a,Below V.heap.size V z->Calls Tryz.prog 16 #[.agg ⟨zF m OA GA VA MA NA oc gc vc mc nc⟩,.int .i64 a] z (z5d z (z0X (gM m) a))):=I fun z a hz=>zcO (gM m) a _ _ _ _ _ _ z (e0.o z hz) c5.o f9.o;have b1:=I (fun e (he:e∈zH (gM m))=>zdL g0.o he);have b4:=I (fun e (he:e∈zH (gM m))=>zg2 he);have m6:(m.nodes.length:Int)<=100:=by have:=a0.o.nodes;omega
 obtain⟨E,hE⟩:∃ E,zH (gM m)= E:=⟨_,rfl⟩;rw[hE] at d9 e5 b1 b4 c6;clear hE c5 f9;go_upto_region 4 with (first|((with_reducible refine z8 tyK27 _ rfl ?_ (HR.o _ e2.o) rfl a3.o ?_);exact wA rfl)|(go_at_call 14;refine(d9.o _ e2.o).mono ?_;rintro e z1 ⟨lv,rfl,ho,O⟩;obtain⟨-,EA,ec,rfl,d8⟩:=ho.at z2D (by have:=c6.o;omega);have i7:=I O;clear ho O));have f4:=I d8;have m4:(E.length:Int)<=4100:=by have:=c6.o;omega
 have j9:Hid (Below V.heap.size V z1):=I (beT e2.o i7.o);clear d8 d9;go_loopg [24] E.length (fun q i u=>∃ j:Nat,j+q= E.length/\i= .int .i64 j/\Below z1.heap.size z1 u);case atStart=>exact⟨0,by omega,rfl,Below.refl _ _⟩
 case round=>
  obtain⟨j,hj,rfl,O⟩:=hrel;have b9:=I O;clear O;obtain⟨Y,hY⟩:∃ z,z= wr:=⟨_,rfl⟩;subst hY;have b5:Hid (Below V.heap.size V Y):=I (beT j9.o b9.o);cases gk with
  |succ g=>
   have k8:(j:Int) <(E.length:Int):=by omega
   obtain⟨e,he⟩:∃ y,E[j]?= some y:=⟨_,List.getElem?_eq_getElem (by omega)⟩;obtain⟨b2,ob,rfl,b6,hc⟩:=f4.o (by omega);obtain⟨ks,c9,b8,e7⟩:=hc j e he;have e7:ks= encE e:=e7;subst e7;obtain⟨h0,h7,y,hy,i3⟩:=b1.o e (List.mem_of_getElem? he);obtain⟨n,hn⟩:=b4.o e (List.mem_of_getElem? he);obtain⟨f,p,tz⟩:=e;obtain⟨k,hk⟩:∃ k:Nat,tz=(k:Int):=⟨tz.toNat,by have h0:0<=tz:=h0;omega⟩;subst hk;have h7:(k:Int) <(m.nodes.length:Int):=h7;have hn:outK E (f:Int) (p:Int)=(n:Int):=hn;have g1:Hid (∀ z,Below V.heap.size V z->Calls Tryz.prog 15 #[.agg ⟨zF m OA GA VA MA NA oc gc vc mc nc⟩,.int .i64 f,.int .i64 p] z fun e w'=>e= .returned (.int .i64 n)/\Below z.heap.size z w'):=I fun z hz=>by have h:=e5.o z f p hz;rwa [hn] at h
   have i4:m.nodes[k]?= some y:=by have h:m.nodes[((k:Int)).toNat]?= some y:=hy;rwa [show((k:Int)).toNat= k by omega] at h
   have i3:(y.kind ==1)= false:=by rw[beq_eq_false_iff_ne];exact i3
   have g3:=I (za b8 b9.o b6);have f3:Hid ((encE (f,p,(k:Int))).length= 3):=I rfl;have j1:=I (z3y (f,p,(k:Int)));obtain⟨nb,no,d7,h8,h9⟩:=f8.o (by omega);have d3:=I d7;clear d7;obtain⟨kn,i1,i2,i0⟩:=h9 k y i4;obtain⟨-, -,b7, -, -⟩:=z8K i0;have f6:=I (fun z (hz:Below W.heap.size W z)=>(show z.cell? ⟨nb,no+k*29,none⟩= some (.int .i64 y.kind) from za i2 hz h8 0 _ b7));clear hc he c9 b8 h0 hy i4 hn h9 i1 i2 i0 b7 b6 h8;go_upto_region 6 with (first|((with_reducible refine z8 tyK62 _ rfl ?_ g3.o rfl f3.o ?_);exact wA rfl)|((with_reducible refine zM tyK62 _ _ rfl ?_ Y f3.o j1.o rfl ?_ ?_ ?_ ?_);exact wA rfl;rfl;rfl;rfl;intro Z HX));have g6:Hid (Below Y.heap.size Y Z):=I HX.o.below;have a4:Hid (Below V.heap.size V Z):=I (beT b5.o g6.o);have X:=I HX.o.range;obtain⟨xb,a6⟩:∃ q,Y.heap.size= q:=⟨_,rfl⟩;rw[a6] at X
   (try rw[a6])
   have c0:Z.cell? ⟨xb,0,none⟩= some (.int .i64 f):=X.o 0 _ rfl;have c1:Z.cell? ⟨xb,1,none⟩= some (.int .i64 p):=X.o 1 _ rfl;have c2:Z.cell? ⟨xb,2,none⟩= some (.int .i64 k):=X.o 2 _ rfl;have d5:Z.cell? ⟨mb,5,none⟩= some (.slice (some ⟨nb,no,none⟩) m.nodes.length nc):=by rw[← d3.o];have:=HR.o _ a4.o 5 _ rfl;simpa using this
   have dk:=f6.o Z (K.o _ a4.o);have q1: ¬ ((k:Int) < 0):=by omega
   have q2: ¬ ((m.nodes.length:Int)<=(k:Int)):=by omega
   have q3: ¬ ((f:Int) < 0):=by omega
   have q4: ¬ ((n:Int) < 0):=by omega
   have q5:(0:Int)<=(k:Int):=by omega
   clear a6 HX g3 f6 d3;go_wp2_with (first|((with_reducible refine z8 tyK27 _ rfl ?_ (HR.o _ a4.o) rfl a3.o ?_);exact wA rfl)|(go_at_call 15;refine(g1.o _ a4.o).k49 ?_;intro z2 i8));go_roundg g;case measure=>omega
   case rel=>exact⟨j+1,by omega,by go_num,b9.o.trans ((beT g6.o i8.o).mono b9.o.size)⟩
  |zero=>
   obtain rfl:j= E.length:=by omega
   have k7: ¬ ((E.length:Int) <(E.length:Int)):=by omega
   have d5:Y.cell? ⟨mb,5,none⟩= some (.slice NA m.nodes.length nc):=by have:=HR.o _ b5.o 5 _ rfl;simpa using this
   have g5:Hid (Below W.heap.size W Y):=I (K.o _ b5.o);clear b1 b4 f4 e5;go_wp2;clear d5;go_loopg [67] m.nodes.length (fun q i u=>∃ j:Nat,j+q= m.nodes.length/\i= .int .i64 j/\Below Y.heap.size Y u);case atStart=>exact⟨0,by omega,rfl,Below.refl _ _⟩
   case round=>
    obtain⟨i,hi,rfl,O⟩:=hrel;have a8:=I O;clear O;obtain⟨U,hU⟩:∃ z,z= wr:=⟨_,rfl⟩;subst hU;cases gk with
    |zero=>
     obtain rfl:i= m.nodes.length:=by omega
     have k7: ¬ ((m.nodes.length:Int) <(m.nodes.length:Int)):=by omega
     go_wp2;go_ret;exact⟨rfl,(beT g5.o a8.o)⟩
    |succ g=>
     have k8:(i:Int) <(m.nodes.length:Int):=by omega
     have k9:i < m.nodes.length:=by omega
     obtain⟨nd,d2⟩:∃ y,m.nodes[i]?= some y:=⟨_,List.getElem?_eq_getElem k9⟩;obtain⟨b2,ob,rfl,b6,hc⟩:=f8.o (by omega);obtain⟨ks,c9,b8,e8⟩:=hc i nd d2;have k1:Hid (Below W.heap.size W U):=I (beT g5.o a8.o);have j2:=I e8.one;obtain⟨XA,xc,b7,g8,g9⟩:=z8K e8;have g2:=I (za b8 k1.o b6);have f5:=I c9;obtain⟨R,hR⟩:∃ R,z0X (gM m) (i:Int)= R:=⟨_,rfl⟩;have j4:Hid (∀ z,Below V.heap.size V z->Calls Tryz.prog 16 #[.agg ⟨zF m OA GA VA MA (some ⟨b2,ob,none⟩) oc gc vc mc nc⟩,.int .i64 i] z (z5d z R)):=I fun z hz=>by have h:=j3.o z i hz;rwa [hR] at h
     have k6:=zaD g0.o d2 (r:=R.length) (by rw[hR]);have j5:Hid (R.length<=100):=I (by rw[← hR];have h:=z6a (gM m) (i:Int);unfold gM at h;rw[List.length_map] at h;have:=a0.o.nodes;unfold gM;omega);have m7:nd.next.length<=40:=(a0.o.next i nd d2).1;generalize nd.next.length= xl at*;generalize nd.kind= kd at*;generalize nd.catch_= ct at*;have l3:(R.length:Int)<=100:=by have:=j5.o;omega
     clear hc d2 c9 b8 e8 b6 hR;go_upto_region 12 with (first|((with_reducible refine z8 tyK49 _ rfl ?_ g2.o rfl f5.o ?_);exact wA rfl)|((with_reducible refine zM tyK49 _ _ rfl ?_ U f5.o j2.o rfl ?_ ?_ ?_ ?_);exact wA rfl;rfl;rfl;rfl;intro Z HX));have g4:=I HX.o.below;have a4:Hid (Below V.heap.size V Z):=I ((beT b5.o a8.o).trans (g4.o.mono (beT b5.o a8.o).size));have X:=I HX.o.range;have c8:=I HX.o.size;obtain⟨xb,a6⟩:∃ q,U.heap.size= q:=⟨_,rfl⟩;rw[a6] at X c8
     (try rw[a6])
     have f2:Hid (∀ z,Below Z.heap.size Z z->z.cell? ⟨xb,0,none⟩= some (.int .i64 kd)):=I fun z hz=>(hz.cell (p:=⟨xb,0,none⟩) c8.o).trans (by have:=X.o 0 _ b7;simpa using this);have i9:Hid (∀ z,Below Z.heap.size Z z->z.cell? ⟨xb,2,none⟩= some (.slice XA xl xc)):=I fun z hz=>(hz.cell (p:=⟨xb,2,none⟩) c8.o).trans (by have:=X.o 2 _ g8;simpa using this);have j0:Hid (∀ z,Below Z.heap.size Z z->z.cell? ⟨xb,26,none⟩= some (.int .i64 ct)):=I fun z hz=>(hz.cell (p:=⟨xb,26,none⟩) c8.o).trans (by have:=X.o 26 _ g9;simpa using this);have j6:Hid (∀ z,Below Z.heap.size Z z->z.rangeAt mb 0 (zF m OA GA VA MA (some ⟨b2,ob,none⟩) oc gc vc mc nc)):=I fun z hz=>HR.o z (beT a4.o hz);clear a6 HX g2 b7 g8 g9;have C:Below Z.heap.size Z Z.drew:=(Below.refl _ _).drew;rcases k6 with ⟨h1,h2,h3,h4⟩|⟨h1,h2,h3,h4⟩|⟨h1,h2,h3⟩|⟨h1,h2,h3,h4⟩|⟨h1,h2,h3,h4,h5⟩
     case' inl=>(have k2:(kd ==2)= true:=by rw[h1];rfl);(have k3:(kd ==13)= false:=by rw[h1];rfl);(have r0:((R.length:Int) ==0)= true:=by rw[h2];rfl);(have n0:((xl:Int) ==0)= true:=by rw[h3];rfl);(have t0:decide (ct < 0)= true:=decide_eq_true h4)
     case' inr.inl=>(have k2:(kd ==2)= false:=by rw[h1];rfl);(have k3:(kd ==13)= true:=by rw[h1];rfl);(have r0:((R.length:Int) ==0)= true:=by rw[h2];rfl);(have n0:((xl:Int) ==0)= true:=by rw[h3];rfl);(have t0:decide (ct < 0)= true:=decide_eq_true h4)
     case' inr.inr.inl=>(have k2:(kd ==2)= false:=by rw[beq_eq_false_iff_ne];exact h1);(have k3:(kd ==13)= false:=by rw[beq_eq_false_iff_ne];exact h2);(have r0:((R.length:Int) ==0)= false:=by rw[beq_eq_false_iff_ne];omega);(have n0:True:=trivial);(have t0:True:=trivial)
     case' inr.inr.inr.inl=>(have k2:(kd ==2)= false:=by rw[beq_eq_false_iff_ne];exact h1);(have k3:(kd ==13)= false:=by rw[beq_eq_false_iff_ne];exact h2);(have r0:((R.length:Int) ==0)= true:=by rw[h3];rfl);(have n0:((xl:Int) ==0)= false:=by rw[beq_eq_false_iff_ne];omega);(have t0:True:=trivial)
     case' inr.inr.inr.inr=>(have k2:(kd ==2)= false:=by rw[beq_eq_false_iff_ne];exact h1);(have k3:(kd ==13)= false:=by rw[beq_eq_false_iff_ne];exact h2);(have r0:((R.length:Int) ==0)= true:=by rw[h3];rfl);(have n0:((xl:Int) ==0)= true:=by rw[h4];rfl);(have t0:decide (ct < 0)= false:=decide_eq_false (by omega))
     all_goals
      refine zr [(0,true),(1,true),(2,true),(3,true),(4,true),(5,true),(6,true),(7,true),(8,true),(9,true),(10,false),(11,true),(12,true),(13,true),(14,true),(15,true),(16,true),(17,true),(18,true),(19,true),(20,true),(21,true),(22,true),(23,true),(24,true)] (fun z=>Below Z.heap.size Z z) (by kernel_rfl) (by intro c a d v w h;cases d<;>exact h) ?_;refine z7 72 (.pointer (some ⟨xb,0,none⟩)) rfl rfl rfl C (fun z hz=>by go_simp) ?_;go_frame;refine z7 73 (.int .i64 kd) rfl rfl rfl C (fun z hz=>by have d1:=f2.o z hz;go_simp) ?_;go_frame
      (refine z7 74 (.bool (kd ==2)) rfl rfl rfl C (fun z hz=>by (go_simp<;>fail)) ?_;rw[k2])
      go_frame;first|(refine zf 75 (.bool true) rfl rfl rfl rfl C rfl ?_)|(refine zf 75 (.bool false) rfl rfl rfl rfl C rfl ?_)
      go_frame;first|(refine z7 76 (.pointer (some ⟨xb,0,none⟩)) rfl rfl rfl C (fun z hz=>by (go_simp<;>fail)) ?_)|(refine z0D (some 76) _ rfl rfl (by first|exact ze rfl rfl rfl rfl (by decide)) C ?_)
      go_frame;first|(refine z7 77 (.int .i64 kd) rfl rfl rfl C (fun z hz=>by ((have d1:=f2.o z hz;go_simp)<;>fail)) ?_)|(refine z0D (some 77) _ rfl rfl (by first|exact ze rfl rfl rfl rfl (by decide)) C ?_)
      go_frame;first|(refine z7 78 (.bool (kd ==13)) rfl rfl rfl C (fun z hz=>by (go_simp<;>fail)) ?_;rw[k3])|(refine z0D (some 78) _ rfl rfl (by first|exact ze rfl rfl rfl rfl (by decide)) C ?_)
      go_frame;first|(refine zx (some 79) (.bool true) _ _ _ _ true rfl rfl rfl rfl (by exact wA rfl) C rfl ?_)|(refine zx (some 79) (.bool true) _ _ _ _ false rfl rfl rfl rfl (by exact wA rfl) C rfl ?_)|(refine zx (some 79) (.bool false) _ _ _ _ false rfl rfl rfl rfl (by exact wA rfl) C rfl ?_)
      go_frame;refine z7 80 (.agg ⟨zF m OA GA VA MA (some ⟨b2,ob,none⟩) oc gc vc mc nc⟩) rfl rfl rfl C (fun z hz=>zu 27 rfl mb 0 (zF m OA GA VA MA (some ⟨b2,ob,none⟩) oc gc vc mc nc) _ rfl (j6.o z hz) Tryz.underlying27 rfl (by rw[a3.o];kernel_rfl)) ?_;go_frame;refine zf 81 (.int .i64 i) rfl rfl rfl rfl C rfl ?_;go_frame;refine zy 82 16 Tryz.func16 (by kernel_rfl) [.agg ⟨zF m OA GA VA MA (some ⟨b2,ob,none⟩) oc gc vc mc nc⟩,.int .i64 i] rfl rfl rfl rfl rfl ?_;refine(j4.o _ (beT a4.o C)).mono ?_;rintro e z3 ⟨rv,rfl,ho,O⟩;have C:Below Z.heap.size Z z3:=(beT C O);obtain⟨RA,rc,rfl⟩:∃ A c,rv= .slice A R.length c:=z0t ho;refine⟨_,rfl,C,?_⟩;clear ho O;go_frame;refine z7 83 (.int .i64 R.length) rfl rfl rfl C (fun z hz=>by go_simp) ?_;go_frame
      (refine z7 84 (.bool ((R.length:Int) ==0)) rfl rfl rfl C (fun z hz=>by (go_simp<;>fail)) ?_;rw[r0])
      go_frame;first|(refine zf 85 (.bool true) rfl rfl rfl rfl C rfl ?_)|(refine zf 85 (.bool false) rfl rfl rfl rfl C rfl ?_)
      go_frame;first|(refine z7 86 (.pointer (some ⟨xb,2,none⟩)) rfl rfl rfl C (fun z hz=>by (go_simp<;>fail)) ?_)|(refine z0D (some 86) _ rfl rfl (by first|exact ze rfl rfl rfl rfl (by decide)) C ?_)
      go_frame;first|(refine z7 87 (.slice XA xl xc) rfl rfl rfl C (fun z hz=>by ((have d1:=i9.o z hz;go_simp)<;>fail)) ?_)|(refine z0D (some 87) _ rfl rfl (by first|exact ze rfl rfl rfl rfl (by decide)) C ?_)
      go_frame;first|(refine z7 88 (.int .i64 xl) rfl rfl rfl C (fun z hz=>by (go_simp<;>fail)) ?_)|(refine z0D (some 88) _ rfl rfl (by first|exact ze rfl rfl rfl rfl (by decide)) C ?_)
      go_frame;first|(refine z7 89 (.bool ((xl:Int) ==0)) rfl rfl rfl C (fun z hz=>by (go_simp<;>fail)) ?_;rw[n0])|(refine z0D (some 89) _ rfl rfl (by first|exact ze rfl rfl rfl rfl (by decide)) C ?_)
      go_frame;first|(refine zx (some 90) (.bool true) _ _ _ _ true rfl rfl rfl rfl (by exact wA rfl) C rfl ?_)|(refine zx (some 90) (.bool false) _ _ _ _ true rfl rfl rfl rfl (by exact wA rfl) C rfl ?_)|(refine zx (some 90) (.bool false) _ _ _ _ false rfl rfl rfl rfl (by exact wA rfl) C rfl ?_)
      go_frame;first|(refine zf 91 (.bool true) rfl rfl rfl rfl C rfl ?_)|(refine zf 91 (.bool false) rfl rfl rfl rfl C rfl ?_)
      go_frame;first|(refine z7 92 (.pointer (some ⟨xb,26,none⟩)) rfl rfl rfl C (fun z hz=>by (go_simp<;>fail)) ?_)|(refine z0D (some 92) _ rfl rfl (by first|exact ze rfl rfl rfl rfl (by decide)) C ?_)
      go_frame;first|(refine z7 93 (.int .i64 ct) rfl rfl rfl C (fun z hz=>by ((have d1:=j0.o z hz;go_simp)<;>fail)) ?_)|(refine z0D (some 93) _ rfl rfl (by first|exact ze rfl rfl rfl rfl (by decide)) C ?_)
      go_frame;first|(refine z7 94 (.bool (decide (ct < 0))) rfl rfl rfl C (fun z hz=>by (go_simp<;>fail)) ?_;rw[t0])|(refine z0D (some 94) _ rfl rfl (by first|exact ze rfl rfl rfl rfl (by decide)) C ?_)
      go_frame;first|(refine zx (some 95) (.bool true) _ _ _ _ true rfl rfl rfl rfl (by exact wA rfl) C rfl ?_)|(refine zx (some 95) (.bool false) _ _ _ _ true rfl rfl rfl rfl (by exact wA rfl) C rfl ?_)|(refine zx (some 95) (.bool false) _ _ _ _ false rfl rfl rfl rfl (by exact wA rfl) C rfl ?_)
      go_frame;refine z7 96 (.bool false) rfl rfl rfl C (fun z hz=>by go_simp) ?_;go_frame;refine zI ?_;have k4:=I C;clear C;go_wp2;go_roundg g;case measure=>omega
      case rel=>exact⟨i+1,by omega,by go_num,a8.o.trans ((beT g4.o k4.o).mono a8.o.size)⟩
end Go.Proofs.YtpmjcbjdcjjplaaGreatDoor

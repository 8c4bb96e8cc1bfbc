/-
  Lemmas towards the law, 28: Contracted, MHd, LiftR, PTerm, StepT.
-/
import Derived.Test.YtbnkbepgmenblaaGreatDoorFAD
import Derived.Test.YtbnkbepgmenblaaGreatDoorFAZ
import Derived.Test.YtbnkbepgmenblaaGreatDoorFBA
import Derived.MakeChecks
import Derived.Stop.LaidErr
import Derived.Test.YtbnkbepgmenblaaGreatDoorRows
set_option linter.unusedVariables false
set_option maxHeartbeats 4000000
set_option maxRecDepth 100000
namespace Go.Proofs.YtbnkbepgmenblaaGreatDoor
open Go.RowKit
theorem j128(t:Tr)(hv:valid sigT t=true)(hr:y155 t=true)(w:World)(v:Value)(j8:Lies w t v):Calls Tryz.prog 112 #[v] w (ConQ w (ctrT t)):=by
 obtain⟨k,n,ks⟩:=t;obtain⟨A,cap,rfl,hl,hc,hK⟩:=Lies.mk_iff.1 j8;rcases q28 (q75.1 hr) with⟨rfl,h⟩ |⟨rfl,h⟩ |⟨rfl,h⟩ |⟨rfl,h⟩ |⟨rfl,h⟩ |⟨rfl,h⟩
 · exact y153 n ks hv w A cap j8 hK hl hc h
 · exact j156 n ks hv w A cap j8 hK hl hc h
 · exact j153 n ks hv w A cap j8 hK hl hc h
 · exact j157 n ks hv w A cap j8 hK hl hc h
 · exact q159 n ks hv w A cap j8 hK hl hc h
 · exact q155 n ks hv w A cap j8 hK hl hc h
theorem at_any(t:Tr)(path:List Int)(u:Tr)(hat:atT t path=some u)(w:World)(v:Value)(j8:Lies w t v)(A:Option Addr)(cap:Nat)(hl:path.length<=cap)(hc:cap<=maxLen)(hP:Nums w A path):
 Calls Tryz.prog 113 #[v,.slice A path.length cap] w fun e w'=> ∃x,e= .returned x/\Lies w' u x/\Ext w w':=by
 obtain⟨k,n,ks⟩:=t;obtain⟨At,ct,rfl,hlt,p9,Ep⟩:=Lies.mk_iff.1 j8;have hcc:=hc;unfold maxLen at hcc;have hx0:=((xr w).alloc (.cells #[.int .i64 k,.int .i64 n,.slice At ks.length ct] 26)).alloc (.cells #[.int .i64 0,.int .i64 0,.slice none 0 0] 26);obtain⟨hb0,hb1,hs0⟩:=blk2 (xr ((w.alloc (.cells #[.int .i64 k,.int .i64 n,.slice At ks.length ct] 26)).alloc (.cells #[.int .i64 0,.int .i64 0,.slice none 0 0] 26)));clear j8;go_enter Tryz.func113,Tryz.ntmps113;go_wp2_with fail;generalize World.alloc (World.alloc w _) _=wS at hx0 hb0 hb1 hs0⊢
 go_loopw [9] (fun i wr=> ∃(j:Nat) (k' n':Int) (kids:List Tr) (A':Option Addr) (c':Nat),j<=path.length/\i= .int .i64 j/\
  Hid (atT (.mk k' n' kids) (path.drop j)=some u)/\kids.length<=c'/\c'<=maxLen/\y23 w A' kids/\
  wr.heap[w.heap.size]? =some (.cells #[.int .i64 k',.int .i64 n',.slice A' kids.length c'] 26 (0,0))/\wr.heap[w.heap.size+1]? =some (.cells #[.int .i64 0,.int .i64 0,.slice none 0 0] 26 (0,0))/\Ext w wr) (fun i _=> path.length -(intOf i).toNat)
 case atStart=> exact⟨0,k,n,ks,At,ct,Nat.zero_le _,rfl,hdq hat,hlt,p9,Ep,hb0,hb1,hx0⟩
 case round=>
  obtain⟨j,k',n',kids,A',c',hj,rfl,HA,I6,G9,hK,hb,I8,hx⟩:=hrel;have hsz:w.heap.size+1 < wr.heap.size:=j10 I8;obtain⟨z0,z1,z2,f0,f1,f2⟩:=own3 hb;obtain⟨y0,y1,y2,g0,g1,g2⟩:=own3 I8;by_cases mi:j < path.length
  · obtain⟨bp,op,rfl,cp⟩:=hP.get hx mi
    have hdr:path.drop j=path[j]::path.drop (j+1):=List.drop_eq_getElem_cons mi;have et:=HA.out;rw[hdr,q197] at et;clear HA hdr;generalize path[j]=i at cp et;have ib:(j:Int) <(path.length:Int):=by omega
    have nj:(0:Int)<=(j:Int):=Int.natCast_nonneg _;have dv:0<=i/\i <(kids.length:Int):=by
     split at et
     · assumption
     · cases et
    rw[if_pos dv] at et;obtain⟨m,rfl⟩:=Int.eq_ofNat_of_zero_le dv.1;have hm:m < kids.length:=by omega
    have e0:((m:Int)).toNat=m:=by omega
    rw[e0] at et;obtain⟨b,o,k2,n2,A2,c2,o8,rfl,HK,d0,d1,d2,jw,iu,hK2,gb,j6⟩:=hK.get (xr w) hm;have E4:kd kids m= .mk k2 n2 o8:=j79 hm HK.out;rw[E4] at et;have HA2:=hdq et;have xw:(m:Int) <(kids.length:Int):=dv.2;have Bw:(0:Int)<=(m:Int):=dv.1;have c0:=hx.cell d0;have c1:=hx.cell d1;have c2':=hx.cell d2;clear E4 HK j6 dv e0 d0 d1 d2 et;have jo:=G9;unfold maxLen at jo;go_wp2_with fail
    go_roundw
    case rel=> exact⟨j+1,k2,n2,o8,A2,c2,by omega,by go_num,HA2,jw,iu,hK2,q11 (q11 (q11 hb 0 _) 1 _) 2 _,q12 (q12 (q12 I8 (by simp) _) (by simp) _) (by simp) _,((hx.setCell (by simp) _).setCell (by simp) _).setCell (by simp) _⟩
    case measure=> simp[intOf];omega
  · have hje:path.drop j= []:=List.drop_of_length_le (by omega)
    have et:=HA.out;rw[hje] at et;have HU:(.mk k' n' kids:Tr)=u:=by simpa[atT] using et
    clear HA et hje;go_wp2_with fail;refine bodyPost_ret (v:= .agg #[.int .i64 k',.int .i64 n',.slice A' kids.length c']) (by simp[results,Tryz.results113,go_sem,y0,y1,y2]) rfl ⟨_,rfl, ?_, ?_⟩
    · rw[<-HU]
      exact Lies.mk I6 G9 (hK.ext (((hx.setCell (by simp) _).setCell (by simp) _).setCell (by simp) _))
    · exact(((hx.setCell (by simp) _).setCell (by simp) _).setCell (by simp) _)
theorem j64(t:Tr)(p:List Int)(hv:valid sigT t=true)(hr:rdxA t p=true)(w:World)(v:Value)(j8:Lies w t v)(A:Option Addr)(n cap:Nat)(hp:PFs w A n cap p)(hn:n<=1000):
 Calls Tryz.prog 71 #[v,.slice A n cap] w fun e w'=> ∃r,e= .returned (.tuple #[r,.bool (conV t p).2])/\Made w w' 26 (conV t p).1 r/\Ext w w':=by
 obtain⟨u,hat,hru⟩:=j96 hr;have ep:=y145 hv hat;have N8:conA t p=putA t p (ctrT u):=by unfold conA;rw[hat]
 have sk:=hdq (fun W (hW:Ext w W)=> by
  have:=at_any t p u hat W v (j8.ext hW) A cap (by rw[hp.hn];exact hp.hl) hp.hc (hp.hP.ext hW);rw[hp.hn] at this;exact this)
 have Li:=hdq (fun W x (hx:Lies W u x)=> j128 u ep hru W x hx);have yl:=hdq (fun W (hW:Ext w W) x (hx:Lies W (ctrT u) x)=> put_any p t (ctrT u) 30 (j20 hv).2 (by rw[hat];rfl) W v x (fun b=> b < W.heap.size) (fun _ h=> h) (j8.ext hW) hx A n cap (hp.ext hW) hn (by have:=(j20 hv).1;omega));have J2:valid sigT (ctrT u)=true->cnt (putA t p (ctrT u))<=1000000:=fun h=> by
  have h1:=j144 p t (ctrT u) u hat;have h2:=(j20 h).1;have h3:=(j20 hv).1;omega
 have ak:=q174 (t:=t) hat;have hc1:(conV t p).1=okT (putA t p (ctrT u)):=by unfold conV okT;rw[N8];split <;> rfl
 have hc2:(conV t p).2=valid sigT (putA t p (ctrT u)):=by
  unfold conV;rw[N8];split
  · rename_i h;exact h.symm
  · rename_i h;exact(Bool.eq_false_iff.2 h).symm
 rw[N8] at ak;rw[hc1,hc2];clear hc1 hc2 N8 hat hru hr ep;generalize putA t p (ctrT u)=X at yl J2 ak⊢;generalize ctrT u=c at Li yl J2 ak;obtain⟨k,nn,ks⟩:=t;obtain⟨At,ct,rfl,-,-,-⟩:=Lies.mk_iff.1 j8;have hx0:=((xr w).alloc (.cells #[.int .i64 k,.int .i64 nn,.slice At ks.length ct] 26)).alloc (.cells #[.int .i64 0,.int .i64 0,.slice none 0 0] 26);obtain⟨hb0,hb1,hs2⟩:=blk2 (xr ((w.alloc (.cells #[.int .i64 k,.int .i64 nn,.slice At ks.length ct] 26)).alloc (.cells #[.int .i64 0,.int .i64 0,.slice none 0 0] 26)));obtain⟨wS,I2⟩: ∃x,x=(w.alloc (.cells #[.int .i64 k,.int .i64 nn,.slice At ks.length ct] 26)).alloc (.cells #[.int .i64 0,.int .i64 0,.slice none 0 0] 26):=⟨_,rfl⟩;rw[<-I2] at hx0 hb0 hb1 hs2;obtain⟨z,hz⟩: ∃z,valid sigT c=z:=⟨_,rfl⟩;have uj:=hdq (show∀W x,Lies W u x->Calls Tryz.prog 112 #[x] W fun e w'=> ∃r,e= .returned (.tuple #[r,.bool z])/\Made W w' 26 (okT c) r/\Ext W w' from fun W x hx=> hz▸Li.out W x hx);clear Li;have nd:=hdq (show z=true->okT c=c from fun h=> by unfold okT;rw[if_pos (hz.trans h)]);have yz:=hdq (show z=false->valid sigT X=false from fun h=> Bool.eq_false_iff.2 fun h'=> by have:=ak h';rw[hz,h] at this;cases this);have Ic:=hdq (show z=true->cnt X<=1000000 from fun h=> J2 (hz.trans h));clear hz J2 ak;cases z with
 |false=>
  have E2:=yz.out rfl;have E3:okT X=y14:=by unfold okT;rw[if_neg (by rw[E2];decide)]
  rw[E2,E3];clear yz nd Ic E2 E3 yl;go_enter Tryz.func71,Tryz.ntmps71;go_wp2_with fail;rw[<-I2];clear I2;refine(sk.out _ hx0).mono ?_;rintro e w1 ⟨x,rfl,hL,h1⟩;go_wp2_with fail;refine(uj.out _ _ hL).mono ?_;rintro e w2 ⟨r,rfl,hM,h2⟩;obtain⟨a1,a2,a3,a4,a5,rfl⟩:=hM.three';obtain⟨s0,s1,s2,f0,f1,f2⟩:=own3 (((h1.trans h2).trans ((xr w2).alloc (.cells #[.int .i64 a1,.int .i64 a2,.slice a3 a4 a5] 26))).blk hb1);go_wp2_with fail;refine bodyPost_ret (v:= .tuple #[.agg #[.int .i64 0,.int .i64 0,.slice none 0 0],.bool false]) (by simp[results,Tryz.results71,go_sem,s0,s1,s2]) rfl ⟨_,rfl,Made.leaf _ _ _ 0 0, ?_⟩;exact((((((hx0.trans h1).trans h2).alloc _).setCell (by simp) _).setCell (by simp) _).setCell (by simp) _)
 |true=>
  have E2:=nd.out rfl;have HC:=Ic.out rfl;rw[E2] at uj;clear yz nd Ic E2;go_enter Tryz.func71,Tryz.ntmps71;go_wp2_with fail;rw[<-I2];clear I2;refine(sk.out _ hx0).mono ?_;rintro e w1 ⟨x,rfl,hL,h1⟩;go_wp2_with fail;refine(uj.out _ _ hL).mono ?_;rintro e w2 ⟨r,rfl,hM,h2⟩;obtain⟨a1,a2,a3,a4,a5,rfl⟩:=hM.three';have h3:=(xr w2).alloc (.cells #[.int .i64 a1,.int .i64 a2,.slice a3 a4 a5] 26);have K0:=(h1.trans h2).trans h3;obtain⟨z0,z1,z2,-,-,-⟩:=own3 (K0.blk hb0);have hL3:=hM.lies.ext h3;clear hM hL;go_wp2_with fail;refine(yl.out _ (hx0.trans K0) _ hL3).mono ?_;rintro e w4 ⟨y,rfl,hY,h4⟩;have hLY:Lies w4 X y:=InT.mono (fun b hb=> by rcases hb with h|h;exact Nat.lt_of_lt_of_le h h4.size;exact h.2) (fun _ _=> rfl) hY;clear hY hL3;go_wp2_with fail;refine(j38 _ _ _ hLY HC).mono ?_;rintro e w5 ⟨yo,rfl,Ay,h5⟩;go_wp2_with fail;refine(j32 Ay).mono ?_;rintro e w6 ⟨b1,b2,b3,b4,b5,rfl,hM6,h6⟩;have C9:=((K0.trans h4).trans h5).trans h6;obtain⟨s0,s1,s2,f0,f1,f2⟩:=own3 (C9.blk hb1);have hw4:w.heap.size+2<=w4.heap.size:=by have:=hx0.size;have:=(K0.trans h4).size;omega
  go_wp2_with fail;refine bodyPost_ret (v:= .tuple #[.agg #[.int .i64 b1,.int .i64 b2,.slice b3 b4 b5],.bool (valid sigT X)]) (by simp[results,Tryz.results71,go_sem,s0,s1,s2]) rfl ⟨_,rfl,Made.since (hM6.after ((((q23.refl _ _).setCell (p:=⟨w.heap.size+1,0,none⟩) (by show w.heap.size+1 < _;omega) (.int .i64 b1)).setCell (p:=⟨w.heap.size+1,1,none⟩) (by show w.heap.size+1 < _;omega) (.int .i64 b2)).setCell (p:=⟨w.heap.size+1,2,none⟩) (by show w.heap.size+1 < _;omega) (.slice b3 b4 b5))) (by omega), ?_⟩;exact((((hx0.trans C9).setCell (by simp) _).setCell (by simp) _).setCell (by simp) _)
end Go.Proofs.YtbnkbepgmenblaaGreatDoor
namespace Go.Proofs.YtbnkbepgmenblaaGreatDoor
open Go.RowKit
open M (Hd HR Cv)
theorem y93{k:Int}(n:Int)(ks:List Tr)(h: ¬(k=5\/k=9\/k=12\/k=15\/k=16)):hdW (.mk k n ks)=([],false):=by
 have h0:rdx k ks=0:=q88 (by omega) (by omega) (by omega) (by omega) (by omega);rw[hdW,if_neg (by rw[h0];decide),if_neg (by omega),if_neg (by omega),if_neg (by omega)]
def HdE(t:M.Tm):Prop:=(∀p,hdW (enc t)=(p,true)-> ∃u,conA (enc t) p=enc u/\Hd t u)/\((hdW (enc t)).2=false-> ∀u,¬Hd t u)
theorem HdE.leaf{t:M.Tm}(h:hdW (enc t)=([],false))(no: ∀u,¬Hd t u):HdE t:=
 ⟨fun p e=> by rw[h] at e;simp at e,fun _=> no⟩
theorem HdE.root{t u:M.Tm}(h:hdW (enc t)=([],true))(e:ctrT (enc t)=enc u)(k:Hd t u):HdE t:=
 ⟨fun p q=> by
  rw[h] at q;simp only[Prod.mk.injEq,and_true] at q;subst q;exact⟨u,by rw[q202,e],k⟩,fun q=> by rw[h] at q;cases q⟩
theorem j192: ∀t:M.Tm,HdE t:=by
 intro t
 induction t with
 |var n=> exact .leaf (y93 _ _ (by omega)) fun u h=> by cases h
 |sort n=> exact .leaf (y93 _ _ (by omega)) fun u h=> by cases h
 |pi A B=> exact .leaf (y93 _ _ (by omega)) fun u h=> by cases h
 |lam A B=> exact .leaf (y93 _ _ (by omega)) fun u h=> by cases h
 |nat=> exact .leaf (y93 _ _ (by omega)) fun u h=> by cases h
 |zero=> exact .leaf (y93 _ _ (by omega)) fun u h=> by cases h
 |succ a=> exact .leaf (y93 _ _ (by omega)) fun u h=> by cases h
 |id T a b=> exact .leaf (y93 _ _ (by omega)) fun u h=> by cases h
 |refl a=> exact .leaf (y93 _ _ (by omega)) fun u h=> by cases h
 |sg A B=> exact .leaf (y93 _ _ (by omega)) fun u h=> by cases h
 |pair T a b=> exact .leaf (y93 _ _ (by omega)) fun u h=> by cases h
 |app f a i1 i2=>
  by_cases hl: ∃A b,f= .lam A b
  · obtain⟨A,b,rfl⟩:=hl
    exact .root (by simp[enc,hdW,rdx,kd,Tr.kind]) (j60 b a) (.beta A b a)
  · have hk:(enc f).kind≠4:=by intro h;cases f <;> simp[enc,Tr.kind] at h;exact hl ⟨_,_,rfl⟩
    have h0: ¬rdx 5 [enc f,enc a]≠0:=fun h=> by
     rcases q28 h with h|h|h|h|h|h <;> first|exact hk h.2|omega
    have e:hdW (enc (.app f a))=(((0:Nat):Int)::(hdW (enc f)).1,(hdW (enc f)).2):=by
     show hdW (.mk 5 0 [enc f,enc a])=_
     rw[hdW,if_neg h0,if_pos (.inl rfl),hdWs]
     rfl
    refine⟨fun p h=> ?_,fun h u hu=> ?_⟩
    · rw[e] at h
      simp only[Prod.mk.injEq] at h;obtain⟨rfl,h2⟩:=h;obtain⟨u,h3,h4⟩:=i1.1 _ (by rw[<-h2]);refine⟨.app u a, ?_,.app a h4⟩
      show conA (.mk 5 0 [enc f,enc a]) _=_
      rw[j57 (k:=5) (n:=0) (ks:= [enc f,enc a]) (i:=0) (p:=(hdW (enc f)).1) (by simp) (y106 (enc f) _ (by rw[<-h2]))]
      show Tr.mk 5 0 [conA (enc f) _,enc a]=_
      rw[h3]
      rfl
    · rw[e] at h
      cases hu with
      |beta=> exact hl ⟨_,_,rfl⟩
      |app _ h5=> exact i1.2 h _ h5
 |elim p z s a i1 i2 i3 i4=>
  by_cases hz:a= .zero
  · subst hz
    exact .root (by simp[enc,hdW,rdx,kd,Tr.kind]) rfl (.ez p z s)
  by_cases hl: ∃b,a= .succ b
  · obtain⟨b,rfl⟩:=hl
    exact .root (by simp[enc,hdW,rdx,kd,Tr.kind]) rfl (.es p z s b)
  · have hk:(enc a).kind≠7:=by intro h;cases a <;> simp[enc,Tr.kind] at h;exact hz rfl
    have hk2:(enc a).kind≠8:=by intro h;cases a <;> simp[enc,Tr.kind] at h;exact hl ⟨_,rfl⟩
    have h0: ¬rdx 9 [enc p,enc z,enc s,enc a]≠0:=fun h=> by
     rcases q28 h with h|h|h|h|h|h <;> first|exact hk h.2|exact hk2 h.2|omega
    have e:hdW (enc (.elim p z s a))=(((3:Nat):Int)::(hdW (enc a)).1,(hdW (enc a)).2):=by
     show hdW (.mk 9 0 [enc p,enc z,enc s,enc a])=_
     rw[hdW,if_neg h0,if_neg (by omega),if_pos rfl,hdWs,hdWs,hdWs,hdWs]
     rfl
    refine⟨fun q h=> ?_,fun h u hu=> ?_⟩
    · rw[e] at h
      simp only[Prod.mk.injEq] at h;obtain⟨rfl,h2⟩:=h;obtain⟨u,h3,h4⟩:=i4.1 _ (by rw[<-h2]);refine⟨.elim p z s u, ?_,.elim p z s h4⟩
      show conA (.mk 9 0 [enc p,enc z,enc s,enc a]) _=_
      rw[j57 (k:=9) (n:=0) (ks:= [enc p,enc z,enc s,enc a]) (i:=3) (p:=(hdW (enc a)).1) (by simp) (y106 (enc a) _ (by rw[<-h2]))]
      show Tr.mk 9 0 [enc p,enc z,enc s,conA (enc a) _]=_
      rw[h3]
      rfl
    · rw[e] at h
      cases hu with
      |ez=> exact hz rfl
      |es=> exact hl ⟨_,rfl⟩
      |elim _ _ _ h5=> exact i4.2 h _ h5
 |move p m a i1 i2 i3=>
  by_cases hl: ∃b,m= .refl b
  · obtain⟨b,rfl⟩:=hl
    exact .root (by simp[enc,hdW,rdx,kd,Tr.kind]) rfl (.mr p b a)
  · have hk:(enc m).kind≠11:=by intro h;cases m <;> simp[enc,Tr.kind] at h;exact hl ⟨_,rfl⟩
    have h0: ¬rdx 12 [enc p,enc m,enc a]≠0:=fun h=> by
     rcases q28 h with h|h|h|h|h|h <;> first|exact hk h.2|omega
    have e:hdW (enc (.move p m a))=(((1:Nat):Int)::(hdW (enc m)).1,(hdW (enc m)).2):=by
     show hdW (.mk 12 0 [enc p,enc m,enc a])=_
     rw[hdW,if_neg h0,if_neg (by omega),if_neg (by omega),if_pos rfl,hdWs,hdWs]
     rfl
    refine⟨fun q h=> ?_,fun h u hu=> ?_⟩
    · rw[e] at h
      simp only[Prod.mk.injEq] at h;obtain⟨rfl,h2⟩:=h;obtain⟨u,h3,h4⟩:=i2.1 _ (by rw[<-h2]);refine⟨.move p u a, ?_,.move p a h4⟩
      show conA (.mk 12 0 [enc p,enc m,enc a]) _=_
      rw[j57 (k:=12) (n:=0) (ks:= [enc p,enc m,enc a]) (i:=1) (p:=(hdW (enc m)).1) (by simp) (y106 (enc m) _ (by rw[<-h2]))]
      show Tr.mk 12 0 [enc p,conA (enc m) _,enc a]=_
      rw[h3]
      rfl
    · rw[e] at h
      cases hu with
      |mr=> exact hl ⟨_,rfl⟩
      |move _ _ h5=> exact i2.2 h _ h5
 |fst a i1=>
  by_cases hl: ∃T x y,a= .pair T x y
  · obtain⟨T,x,y,rfl⟩:=hl
    exact .root (by simp[enc,hdW,rdx,kd,Tr.kind]) rfl (.fp T x y)
  · have hk:(enc a).kind≠14:=by intro h;cases a <;> simp[enc,Tr.kind] at h;exact hl ⟨_,_,_,rfl⟩
    have h0: ¬rdx 15 [enc a]≠0:=fun h=> by
     rcases q28 h with h|h|h|h|h|h <;> first|exact hk h.2|omega
    have e:hdW (enc (.fst a))=(((0:Nat):Int)::(hdW (enc a)).1,(hdW (enc a)).2):=by
     show hdW (.mk 15 0 [enc a])=_
     rw[hdW,if_neg h0,if_pos (.inr (.inl rfl)),hdWs]
     rfl
    refine⟨fun q h=> ?_,fun h u hu=> ?_⟩
    · rw[e] at h
      simp only[Prod.mk.injEq] at h;obtain⟨rfl,h2⟩:=h;obtain⟨u,h3,h4⟩:=i1.1 _ (by rw[<-h2]);refine⟨.fst u, ?_,.fst h4⟩
      show conA (.mk 15 0 [enc a]) _=_
      rw[j57 (k:=15) (n:=0) (ks:= [enc a]) (i:=0) (p:=(hdW (enc a)).1) (by simp) (y106 (enc a) _ (by rw[<-h2]))]
      show Tr.mk 15 0 [conA (enc a) _]=_
      rw[h3]
      rfl
    · rw[e] at h
      cases hu with
      |fp=> exact hl ⟨_,_,_,rfl⟩
      |fst h5=> exact i1.2 h _ h5
 |snd a i1=>
  by_cases hl: ∃T x y,a= .pair T x y
  · obtain⟨T,x,y,rfl⟩:=hl
    exact .root (by simp[enc,hdW,rdx,kd,Tr.kind]) rfl (.sp T x y)
  · have hk:(enc a).kind≠14:=by intro h;cases a <;> simp[enc,Tr.kind] at h;exact hl ⟨_,_,_,rfl⟩
    have h0: ¬rdx 16 [enc a]≠0:=fun h=> by
     rcases q28 h with h|h|h|h|h|h <;> first|exact hk h.2|omega
    have e:hdW (enc (.snd a))=(((0:Nat):Int)::(hdW (enc a)).1,(hdW (enc a)).2):=by
     show hdW (.mk 16 0 [enc a])=_
     rw[hdW,if_neg h0,if_pos (.inr (.inr rfl)),hdWs]
     rfl
    refine⟨fun q h=> ?_,fun h u hu=> ?_⟩
    · rw[e] at h
      simp only[Prod.mk.injEq] at h;obtain⟨rfl,h2⟩:=h;obtain⟨u,h3,h4⟩:=i1.1 _ (by rw[<-h2]);refine⟨.snd u, ?_,.snd h4⟩
      show conA (.mk 16 0 [enc a]) _=_
      rw[j57 (k:=16) (n:=0) (ks:= [enc a]) (i:=0) (p:=(hdW (enc a)).1) (by simp) (y106 (enc a) _ (by rw[<-h2]))]
      show Tr.mk 16 0 [conA (enc a) _]=_
      rw[h3]
      rfl
    · rw[e] at h
      cases hu with
      |sp=> exact hl ⟨_,_,_,rfl⟩
      |snd h5=> exact i1.2 h _ h5
theorem q145: ∀(f:Nat) (A:M.Tm) (x:Tr),hnfC f (enc A)=(x,0)-> ∃B,x=enc B/\HR A B/\ ∀C,¬Hd B C
 |0,A,x,h=> by
  cases e:hdQ (enc A) with
  |none=>
   rw[j56 e] at h;simp only[Prod.mk.injEq,and_true] at h;exact⟨A,h.symm,.refl A,(j192 A).2 (q110 e)⟩
  |some p=> rw[j93 e] at h;cases h
 |f+1,A,x,h=> by
  cases e:hdQ (enc A) with
  |none=>
   rw[j56 e] at h;simp only[Prod.mk.injEq,and_true] at h;exact⟨A,h.symm,.refl A,(j192 A).2 (q110 e)⟩
  |some p=>
   by_cases hc:valid sigT (conA (enc A) p)=true
   · rw[y134 e hc] at h
     obtain⟨u,h1,h2⟩:=(j192 A).1 p (y77 e);rw[h1] at h;obtain⟨B,h3,h4,h5⟩:=q145 f u x h;exact⟨B,h3,.step h2 h4,h5⟩
   · rw[j137 e (Bool.eq_false_iff.2 hc)] at h
     cases h
theorem j52{A:M.Tm}{x:Tr}{f:Int}(h:hnfV (enc A) f=(x,0)): ∃B,x=enc B/\HR A B/\(∀C,¬Hd B C)/\valid sigT (enc B)=true:=by
 have hv:=(q90 h).2.2.2;unfold hnfV at h
 split at h
 · obtain⟨B,rfl,h1,h2⟩:=q145 _ A x h
   exact⟨B,rfl,h1,h2,hv⟩
 · cases h
theorem y147{A B c:M.Tm}(h:HR A B)(hs: ∀C,¬Hd B C)(k:HR A c)(hc:M.hk c≠0):B=c:=by
 have:=h.after k hc;cases this with
 |refl=> rfl
 |step h1 _=> exact absurd h1 (hs _)
theorem j212{A B:M.Tm}(h:j94 (enc A) (enc B) 200=1):Cv A B:=by
 unfold j94 at h
 split at h
 · rename_i hv
   simp only[Bool.and_eq_true] at hv
   split at h
   · rename_i e
     rw[q193 e];exact Cv.rfl' _
   · split at h
     · rename_i h1
       split at h
       · rename_i h2
         obtain⟨r1,-,-⟩:=q50 (200:Int).toNat (enc A) (nrmC (200:Int).toNat (enc A)).1 hv.1 (by rw[<-h1.1]);obtain⟨r2,-,-⟩:=q50 (200:Int).toNat (enc B) (nrmC (200:Int).toNat (enc B)).1 hv.2.1 (by rw[<-h1.2]);obtain⟨m,e1,q1⟩:=j189 r1 rfl;obtain⟨m',e2,q2⟩:=j189 r2 rfl;have:m=m':=q193 (by rw[<-e1,<-e2,h2]);subst this;exact⟨m,q1,q2⟩
       · simp at h
     · simp at h
 · simp at h
theorem conv_no{A B:M.Tm}(h:j94 (enc A) (enc B) 200=2): ¬Cv A B:=by
 intro hc;unfold j94 at h
 split at h
 · rename_i hv
   simp only[Bool.and_eq_true] at hv
   split at h
   · simp at h
   · split at h
     · rename_i h1
       split at h
       · simp at h
       · rename_i h2
         obtain⟨r1,n1,-⟩:=q50 (200:Int).toNat (enc A) (nrmC (200:Int).toNat (enc A)).1 hv.1 (by rw[<-h1.1]);obtain⟨r2,n2,-⟩:=q50 (200:Int).toNat (enc B) (nrmC (200:Int).toNat (enc B)).1 hv.2.1 (by rw[<-h1.2]);obtain⟨C,c1,c2⟩:=hc;obtain⟨d1,e1,f1⟩:=r1.meet (y190 c1);obtain⟨d2,e2,f2⟩:=r2.meet (y190 c2);rw[e1.normal n1] at f1;rw[e2.normal n2] at f2;exact h2 (Reds.unique f1 f2 n1 n2)
     · simp at h
 · simp at h
theorem y165{A B:M.Tm}(h:cvtV (enc A) (enc B)=0):Cv A B:=j212 (cvtV_ok h)
theorem cvt_nb{A B:M.Tm}(h:Cv A B):cvtV (enc A) (enc B)=0\/cvtV (enc A) (enc B)=2:=by
 unfold cvtV
 split
 · exact .inl rfl
 · split
   · rename_i h2
     exact absurd h (conv_no h2)
   · exact .inr rfl
theorem kind2{B:M.Tm}(h:(enc B).kind=2): ∃n,B= .sort n:=by
 cases B <;> simp[enc,Tr.kind] at h;exact⟨_,rfl⟩
theorem kind3{B:M.Tm}(h:(enc B).kind=3): ∃C R,B= .pi C R:=by
 cases B <;> simp[enc,Tr.kind] at h;exact⟨_,_,rfl⟩
theorem kind10{B:M.Tm}(h:(enc B).kind=10): ∃T a b,B= .id T a b:=by
 cases B <;> simp[enc,Tr.kind] at h;exact⟨_,_,_,rfl⟩
theorem kind13{B:M.Tm}(h:(enc B).kind=13): ∃C R,B= .sg C R:=by
 cases B <;> simp[enc,Tr.kind] at h;exact⟨_,_,rfl⟩
end Go.Proofs.YtbnkbepgmenblaaGreatDoor
namespace Go.Proofs.YtbnkbepgmenblaaGreatDoor
open Go.RowKit
theorem gRange:Tryz.prog.globalNamed "strconv.ErrRange" =some 4:=by kernel_rfl
theorem gSyntax:Tryz.prog.globalNamed "strconv.ErrSyntax" =some 3:=by kernel_rfl
theorem gRangeT:(Tryz.prog.globals[(4:Nat)]?).map (·.type)=some 75:=by kernel_rfl
theorem y206:(Tryz.prog.globals[(3:Nat)]?).map (·.type)=some 75:=by kernel_rfl
theorem q163: "*" ++ "errors.errorString" = "*errors.errorString" :=by decide
theorem rowErr(u:TypeId)(h:Tryz.prog.typeName? 3 u=some "*errors.errorString"):u=170:=
 typeName_ptr_named (nm:= "errors.errorString") (by rw[q163];kernel_rfl) (by kernel_rfl) (by decide) u (by rw[q163];exact h)
theorem y217:Tryz.prog.cellsOf 172=1:=by kernel_rfl
theorem y216:Tryz.prog.cellsOf 9=1:=by kernel_rfl
theorem q146{n:String}{text:List UInt8}{r:List (String×DataW Unit)}{W:World}{g:Nat}(hg:Tryz.prog.globalNamed n=some g)(ht:(Tryz.prog.globals[g]?).map (·.type)=some 75)
 (h:laidMet Tryz.prog ((n,.iface "*errors.errorString" (.ptr (.agg [.lit (.string text)])))::r) W): ∃v,W.cell? ⟨g,0,none⟩=some v/\(v= .nilIface\/ ∃t p,v= .iface t p):=by
 obtain⟨a1,s1,N1,-⟩:=laid_sentinel h hg ht Tryz.underlying75 rowErr Tryz.underlying170 Tryz.underlying172 rfl rfl Tryz.underlying9 y217 y216;have h0:=World.var?_cell hg N1 0;exact⟨_,by simpa using h0,.inr ⟨_,_,rfl⟩⟩
theorem envR_of{W:World}{x0 x1 x2 x3:String×DataW Unit}{t1 t2:List UInt8}{r:List (String×DataW Unit)}(h:laidMet Tryz.prog (x0::x1::x2::x3::("strconv.ErrRange",.iface "*errors.errorString" (.ptr (.agg [.lit (.string t1)])))::("strconv.ErrSyntax",.iface "*errors.errorString" (.ptr (.agg [.lit (.string t2)])))::r) W)(hsh:W.ShapedOpen Tryz.prog):EnvR W:=
 ⟨envM_of hsh,q146 gSyntax y206 h.tail.tail.tail.tail.tail,q146 gRange gRangeT h.tail.tail.tail.tail⟩
end Go.Proofs.YtbnkbepgmenblaaGreatDoor
namespace Go.Proofs.YtbnkbepgmenblaaGreatDoor
open Go.RowKit
attribute [local go_sem ↓] Go.wp_at_zero Go.wp_at_succ
theorem j179(l:List UInt8){t:Tr}{y:List UInt8}{ok:Bool}(h:rdT 30 l=(t,y,ok)):rdV l=if ok=true/\y= []/\valid sigT t=true/\fmtL t=l then some t else none:=by
 unfold rdV;rw[h]
theorem y99(l:List UInt8)(hl:l.length<=1000000000)(w:World)(hW:EnvR w):Calls Tryz.prog 16 #[.string (ofL l)] w fun e w'=> ∃u,e= .returned (.tuple #[u,.bool (prsV l).isSome])/\Made w w' 26 ((prsV l).getD y14) u/\Ext w w':=by
 rw[<-rdV_eq];have HR:=hdq (fun W (hx:Ext w W)=> q86 30 (by omega) 1 l W rfl (hW.ext hx) hl);obtain⟨⟨t,y,ok⟩,hF⟩: ∃x,rdT 30 l=x:=⟨_,rfl⟩;have hV:=j179 l hF;rw[hF] at HR;obtain⟨R,hR⟩: ∃R,rdV l=R:=⟨_,rfl⟩;rw[hR] at hV⊢;have hFl:=hF;clear hR;have hx0:=(xr w).alloc (.cells #[.int .i64 0,.int .i64 0,.slice none 0 0] 26);obtain⟨s,hs⟩: ∃s,s=ofL l:=⟨_,rfl⟩;have D2:s.toList=l:=by rw[hs,j85]
 have HV:=hdq hV;rw[<-hs] at HR⊢;clear hF hFl hV hs;have fail:R=none->True:=fun _=> trivial
 cases ok with
 |false=>
  have hn:R=none:=by rw[HV.out,if_neg (by simp)]
  subst hn;go_enter Tryz.func16,Tryz.ntmps16;go_wp2_with fail;refine(HR.out _ hx0).mono ?_;rintro e w1 ⟨u,rfl,hM,h1⟩;obtain⟨b1,b2,b3,b4,b5,rfl⟩:=hM.three;have hb:=(blk1 h1).1;have hx1:=hx0.trans h1;obtain⟨y0,y1,y2,f0,f1,f2⟩:=own3 ((((xr w1).alloc (.cells #[.int .i64 b1,.int .i64 b2,.slice b3 b4 b5] 26))).blk hb);go_wp2_with fail;refine bodyPost_ret (v:= .tuple #[.agg #[.int .i64 0,.int .i64 0,.slice none 0 0],.bool false]) (by simp[results,Tryz.results16,go_sem,y0,y1,y2]) rfl ⟨_,rfl,Made.leaf _ _ _ 0 0, ?_⟩;exact(((hx1.alloc _).setCell (by simp) _).setCell (by simp) _).setCell (by simp) _
 |true=>
  go_enter Tryz.func16,Tryz.ntmps16;go_wp2_with fail;refine(HR.out _ hx0).mono ?_;rintro e w1 ⟨u,rfl,hM,h1⟩;obtain⟨k,n,ks⟩:=t;obtain⟨A,cap,rfl,I6,G9,od⟩:=Made.mk_iff.1 hM;have hb:=(blk1 h1).1;have hsz:=h1.size;have hx1:=hx0.trans h1;have hx2:Ext w (w1.alloc (.cells #[.int .i64 k,.int .i64 n,.slice A ks.length cap] 26)):=hx1.alloc _;have hb2:=((xr w1).alloc (.cells #[.int .i64 k,.int .i64 n,.slice A ks.length cap] 26)).blk hb;have ym:=heap_alloc_new w1 (.cells #[.int .i64 k,.int .i64 n,.slice A ks.length cap] 26);cases y with
  |cons c y=>
   have hye:(ofL (c::y)).toList.isEmpty=false:=by rw[j85];rfl
   have hn:R=none:=by rw[HV.out,if_neg (by simp)]
   subst hn;obtain⟨y0,y1,y2,f0,f1,f2⟩:=own3 hb2;go_wp2_with fail;refine bodyPost_ret (v:= .tuple #[.agg #[.int .i64 0,.int .i64 0,.slice none 0 0],.bool false]) (by simp[results,Tryz.results16,go_sem,y0,y1,y2]) rfl ⟨_,rfl,Made.leaf _ _ _ 0 0, ?_⟩;exact((hx2.setCell (by simp) _).setCell (by simp) _).setCell (by simp) _
  |nil=>
   have hye:(ofL []).toList.isEmpty=true:=by rw[j85];rfl
   have Cg:=hdq (fun W (hW:Ext w1 W)=> j16 (.mk k n ks) W _ (hM.lies.ext hW));cases hz:valid sigT (.mk k n ks) with
   |false=>
    have hn:R=none:=by rw[HV.out,if_neg (by simp[hz])]
    subst hn;rw[hz] at Cg;clear hz;obtain⟨z0,z1,z2,e0,e1,e2⟩:=own3 ym;go_wp2_with fail;refine(Cg.out _ ((xr w1).alloc _)).mono ?_;rintro e w3 ⟨rfl,h3⟩;obtain⟨y0,y1,y2,f0,f1,f2⟩:=own3 (h3.blk hb2);go_wp2_with fail;refine bodyPost_ret (v:= .tuple #[.agg #[.int .i64 0,.int .i64 0,.slice none 0 0],.bool false]) (by simp[results,Tryz.results16,go_sem,y0,y1,y2]) rfl ⟨_,rfl,Made.leaf _ _ _ 0 0, ?_⟩;exact(((hx2.trans h3).setCell (by simp) _).setCell (by simp) _).setCell (by simp) _
   |true=>
    obtain⟨q1,q2⟩:=y11 hz;have N0:=hdq (fun W (hX:Ext w1 W)=> j118 (.mk k n ks) W _ 30 ((hW.ext (hx1.trans hX)).1) q1 (by omega) (hM.lies.ext hX));obtain⟨x,hx⟩: ∃x,fmtL (.mk k n ks)=x:=⟨_,rfl⟩;rw[hx] at N0;have Dw:=HV.out;rw[hx,hz] at Dw;rw[hz] at Cg;by_cases y7:x=l
    · have hn:R=some (.mk k n ks):=by rw[Dw,if_pos (by simp[y7])]
      have F4:((ofL x).toList==s.toList)=true:=by rw[y7,D2,j85];simp
      subst hn;clear hz Dw hx HV y7 D2;obtain⟨z0,z1,z2,e0,e1,e2⟩:=own3 ym;go_wp2_with fail;refine(Cg.out _ ((xr w1).alloc _)).mono ?_;rintro e w3 ⟨rfl,h3⟩;obtain⟨z0,z1,z2,e0,e1,e2⟩:=own3 (h3.blk ym);go_wp2_with fail;refine(N0.out _ (((xr w1).alloc _).trans h3)).mono ?_;rintro e w4 ⟨rfl,h4⟩;have fl:=h3.trans h4;have Jd:=fl.size;obtain⟨y0,y1,y2,f0,f1,f2⟩:=own3 (fl.blk hb2);obtain⟨z0,z1,z2,e0,e1,e2⟩:=own3 (fl.blk ym);go_wp2_with fail;refine bodyPost_ret (v:= .tuple #[.agg #[.int .i64 k,.int .i64 n,.slice A ks.length cap],.bool true]) (by simp[results,Tryz.results16,go_sem,y0,y1,y2]) rfl ⟨_,rfl,Made.since (w:=w.alloc (.cells #[.int .i64 0,.int .i64 0,.slice none 0 0] 26)) ((hM.ext (((xr w1).alloc _).trans fl)).after ((((q23.refl _ _).setCell (p:=⟨w.heap.size,0,none⟩) (by simp) _).setCell (p:=⟨w.heap.size,1,none⟩) (by simp) _).setCell (p:=⟨w.heap.size,2,none⟩) (by simp) _)) (by simp), ?_⟩;exact(((hx2.trans fl).setCell (by simp) _).setCell (by simp) _).setCell (by simp) _
    · have hn:R=none:=by rw[Dw,if_neg (fun h=> y7 h.2.2.2)]
      have F4:((ofL x).toList==s.toList)=false:=by rw[D2,j85];exact beq_eq_false_iff_ne.2 y7
      subst hn;clear hz Dw hx HV y7 D2;obtain⟨z0,z1,z2,e0,e1,e2⟩:=own3 ym;go_wp2_with fail;refine(Cg.out _ ((xr w1).alloc _)).mono ?_;rintro e w3 ⟨rfl,h3⟩;obtain⟨z0,z1,z2,e0,e1,e2⟩:=own3 (h3.blk ym);go_wp2_with fail;refine(N0.out _ (((xr w1).alloc _).trans h3)).mono ?_;rintro e w4 ⟨rfl,h4⟩;have fl:=h3.trans h4;have Jd:=fl.size;obtain⟨y0,y1,y2,f0,f1,f2⟩:=own3 (fl.blk hb2);go_wp2_with fail;refine bodyPost_ret (v:= .tuple #[.agg #[.int .i64 0,.int .i64 0,.slice none 0 0],.bool false]) (by simp[results,Tryz.results16,go_sem,y0,y1,y2]) rfl ⟨_,rfl,Made.leaf _ _ _ 0 0, ?_⟩;exact(((hx2.trans fl).setCell (by simp) _).setCell (by simp) _).setCell (by simp) _
end Go.Proofs.YtbnkbepgmenblaaGreatDoor
namespace Go.Proofs.YtbnkbepgmenblaaGreatDoor
open Go.RowKit
theorem j82{w:World}{base:Nat}{v:Value}{p:List Int}(h:w.ownsRow base 3 1 v p.length (p.map (Value.int .i64))): ∃B c,v= .slice B p.length c/\PFs w B p.length c p:=by
 obtain⟨B,c,rfl,h1,h2,h3⟩:=y25 h;exact⟨B,c,rfl,rfl,h1,h2,h3⟩
end Go.Proofs.YtbnkbepgmenblaaGreatDoor

/-
  Lemmas towards the law, 33: Contracted, MHd, UnfP, DrawM, StepT.
-/
import Derived.Test.YtdkamgafpphdjaaGreatUAD
import Derived.Test.YtdkamgafpphdjaaGreatUBE
import Derived.Test.YtdkamgafpphdjaaGreatUBF
set_option maxHeartbeats 2000000
set_option maxRecDepth 100000
namespace Go.Proofs.YtdkamgafpphdjaaGreat
open Go.RowKit
set_option linter.unusedVariables false
theorem q126(t:Tr)(hv:valid sigT t=true)(hr:j158 t=true)(w:World)(v:Value)(hin:Lies w t v):Calls Tryz.prog 118 #[v] w (ConQ w (ctrT t)):=by
 obtain⟨k,n,ks⟩:=t;obtain⟨A,cap,rfl,hl,hc,hK⟩:=Lies.mk_iff.1 hin;rcases j29 (y73.1 hr) with⟨rfl,h⟩ |⟨rfl,h⟩ |⟨rfl,h⟩ |⟨rfl,h⟩ |⟨rfl,h⟩ |⟨rfl,h⟩
 · exact q168 n ks hv w A cap hin hK hl hc h
 · exact q162 n ks hv w A cap hin hK hl hc h
 · exact j157 n ks hv w A cap hin hK hl hc h
 · exact q159 n ks hv w A cap hin hK hl hc h
 · exact q167 n ks hv w A cap hin hK hl hc h
 · exact y164 n ks hv w A cap hin hK hl hc h
theorem at_any(t:Tr)(path:List Int)(u:Tr)(hat:atT t path=some u)(w:World)(v:Value)(hin:Lies w t v)(A:Option Addr)(cap:Nat)(hl:path.length<=cap)(hc:cap<=maxLen)(hP:Nums w A path):
 Calls Tryz.prog 119 #[v,.slice A path.length cap] w fun e w'=> ∃x,e= .returned x/\Lies w' u x/\Ext w w':=by
 obtain⟨k,n,ks⟩:=t;obtain⟨At,ct,rfl,hlt,hct,hKt⟩:=Lies.mk_iff.1 hin;have hcc:=hc;unfold maxLen at hcc;have hx0:=((xr w).alloc (.cells #[.int .i64 k,.int .i64 n,.slice At ks.length ct] 25)).alloc (.cells #[.int .i64 0,.int .i64 0,.slice none 0 0] 25);obtain⟨hb0,hb1,hs0⟩:=blk2 (xr ((w.alloc (.cells #[.int .i64 k,.int .i64 n,.slice At ks.length ct] 25)).alloc (.cells #[.int .i64 0,.int .i64 0,.slice none 0 0] 25)));clear hin;go_enter Tryz.func119,Tryz.ntmps119;go_wp2_with fail;generalize World.alloc (World.alloc w _) _=wS at hx0 hb0 hb1 hs0⊢
 go_loopw [9] (fun i wr=> ∃(j:Nat) (k' n':Int) (kids:List Tr) (A':Option Addr) (c':Nat),j<=path.length/\i= .int .i64 j/\
  Hid (atT (.mk k' n' kids) (path.drop j)=some u)/\kids.length<=c'/\c'<=maxLen/\y16 w A' kids/\
  wr.heap[w.heap.size]? =some (.cells #[.int .i64 k',.int .i64 n',.slice A' kids.length c'] 25 (0,0))/\wr.heap[w.heap.size+1]? =some (.cells #[.int .i64 0,.int .i64 0,.slice none 0 0] 25 (0,0))/\Ext w wr) (fun i _=> path.length -(intOf i).toNat)
 case atStart=> exact⟨0,k,n,ks,At,ct,Nat.zero_le _,rfl,hdq hat,hlt,hct,hKt,hb0,hb1,hx0⟩
 case round=>
  obtain⟨j,k',n',kids,A',c',hj,rfl,HA,hkl,hkc,hK,hb,hbR,hx⟩:=hrel;have hsz:w.heap.size+1 < wr.heap.size:=q10 hbR;obtain⟨z0,z1,z2,f0,f1,f2⟩:=own3 hb;obtain⟨y0,y1,y2,g0,g1,g2⟩:=own3 hbR;by_cases hlj:j < path.length
  · obtain⟨bp,op,rfl,cp⟩:=hP.get hx hlj
    have hdr:path.drop j=path[j]::path.drop (j+1):=List.drop_eq_getElem_cons hlj;have HA1:=HA.out;rw[hdr,q219] at HA1;clear HA hdr;generalize path[j]=i at cp HA1;have hj2:(j:Int) <(path.length:Int):=by omega
    have hj0:(0:Int)<=(j:Int):=Int.natCast_nonneg _;have hi2:0<=i/\i <(kids.length:Int):=by
     split at HA1
     · assumption
     · cases HA1
    rw[if_pos hi2] at HA1;obtain⟨m,rfl⟩:=Int.eq_ofNat_of_zero_le hi2.1;have hm:m < kids.length:=by omega
    have e0:((m:Int)).toNat=m:=by omega
    rw[e0] at HA1;obtain⟨b,o,k2,n2,A2,c2,kids2,rfl,HK,d0,d1,d2,hkl2,hkc2,hK2,hin2,hmem⟩:=hK.get (xr w) hm;have hkd:kd kids m= .mk k2 n2 kids2:=j71 hm HK.out;rw[hkd] at HA1;have HA2:=hdq HA1;have hm2:(m:Int) <(kids.length:Int):=hi2.2;have hm0:(0:Int)<=(m:Int):=hi2.1;have c0:=hx.cell d0;have c1:=hx.cell d1;have c2':=hx.cell d2;clear hkd HK hmem hi2 e0 d0 d1 d2 HA1;have hkc3:=hkc;unfold maxLen at hkc3;go_wp2_with fail
    go_roundw
    case rel=> exact⟨j+1,k2,n2,kids2,A2,c2,by omega,by go_num,HA2,hkl2,hkc2,hK2,q11 (q11 (q11 hb 0 _) 1 _) 2 _,j12 (j12 (j12 hbR (by simp) _) (by simp) _) (by simp) _,((hx.setCell (by simp) _).setCell (by simp) _).setCell (by simp) _⟩
    case measure=> simp[intOf];omega
  · have hje:path.drop j= []:=List.drop_of_length_le (by omega)
    have HA1:=HA.out;rw[hje] at HA1;have HU:(.mk k' n' kids:Tr)=u:=by simpa[atT] using HA1
    clear HA HA1 hje;go_wp2_with fail;refine bodyPost_ret (v:= .agg #[.int .i64 k',.int .i64 n',.slice A' kids.length c']) (by simp[results,Tryz.results119,go_sem,y0,y1,y2]) rfl ⟨_,rfl, ?_, ?_⟩
    · rw[<-HU]
      exact Lies.mk hkl hkc (hK.ext (((hx.setCell (by simp) _).setCell (by simp) _).setCell (by simp) _))
    · exact(((hx.setCell (by simp) _).setCell (by simp) _).setCell (by simp) _)
theorem q64(t:Tr)(p:List Int)(hv:valid sigT t=true)(hr:rdxA t p=true)(w:World)(v:Value)(hin:Lies w t v)(A:Option Addr)(n cap:Nat)(hp:PFs w A n cap p)(hn:n<=1000):
 Calls Tryz.prog 57 #[v,.slice A n cap] w fun e w'=> ∃r,e= .returned (.tuple #[r,.bool (conV t p).2])/\Made w w' 25 (conV t p).1 r/\Ext w w':=by
 obtain⟨u,hat,hru⟩:=y97 hr;have hvu:=y149 hv hat;have hca:conA t p=putA t p (ctrT u):=by unfold conA;rw[hat]
 have HAT:=hdq (fun W (hW:Ext w W)=> by
  have:=at_any t p u hat W v (hin.ext hW) A cap (by rw[hp.hn];exact hp.hl) hp.hc (hp.hP.ext hW);rw[hp.hn] at this;exact this)
 have HCT:=hdq (fun W x (hx:Lies W u x)=> q126 u hvu hru W x hx);have HPT:=hdq (fun W (hW:Ext w W) x (hx:Lies W (ctrT u) x)=> put_any p t (ctrT u) 30 (q21 hv).2 (by rw[hat];rfl) W v x (fun b=> b < W.heap.size) (fun _ h=> h) (hin.ext hW) hx A n cap (hp.ext hW) hn (by have:=(q21 hv).1;omega));have hcn:valid sigT (ctrT u)=true->cnt (putA t p (ctrT u))<=1000000:=fun h=> by
  have h1:=y155 p t (ctrT u) u hat;have h2:=(q21 h).1;have h3:=(q21 hv).1;omega
 have hpart:=j179 (t:=t) hat;have hc1:(conV t p).1=okT (putA t p (ctrT u)):=by unfold conV okT;rw[hca];split <;> rfl
 have hc2:(conV t p).2=valid sigT (putA t p (ctrT u)):=by
  unfold conV;rw[hca];split
  · rename_i h;exact h.symm
  · rename_i h;exact(Bool.eq_false_iff.2 h).symm
 rw[hca] at hpart;rw[hc1,hc2];clear hc1 hc2 hca hat hru hr hvu;generalize putA t p (ctrT u)=X at HPT hcn hpart⊢;generalize ctrT u=c at HCT HPT hcn hpart;obtain⟨k,nn,ks⟩:=t;obtain⟨At,ct,rfl,-,-,-⟩:=Lies.mk_iff.1 hin;have hx0:=((xr w).alloc (.cells #[.int .i64 k,.int .i64 nn,.slice At ks.length ct] 25)).alloc (.cells #[.int .i64 0,.int .i64 0,.slice none 0 0] 25);obtain⟨hb0,hb1,hs2⟩:=blk2 (xr ((w.alloc (.cells #[.int .i64 k,.int .i64 nn,.slice At ks.length ct] 25)).alloc (.cells #[.int .i64 0,.int .i64 0,.slice none 0 0] 25)));obtain⟨wS,hwS⟩: ∃x,x=(w.alloc (.cells #[.int .i64 k,.int .i64 nn,.slice At ks.length ct] 25)).alloc (.cells #[.int .i64 0,.int .i64 0,.slice none 0 0] 25):=⟨_,rfl⟩;rw[<-hwS] at hx0 hb0 hb1 hs2;obtain⟨z,hz⟩: ∃z,valid sigT c=z:=⟨_,rfl⟩;have HCT2:=hdq (show∀W x,Lies W u x->Calls Tryz.prog 118 #[x] W fun e w'=> ∃r,e= .returned (.tuple #[r,.bool z])/\Made W w' 25 (okT c) r/\Ext W w' from fun W x hx=> hz▸HCT.out W x hx);clear HCT;have HOK:=hdq (show z=true->okT c=c from fun h=> by unfold okT;rw[if_pos (hz.trans h)]);have HNO:=hdq (show z=false->valid sigT X=false from fun h=> Bool.eq_false_iff.2 fun h'=> by have:=hpart h';rw[hz,h] at this;cases this);have HCN:=hdq (show z=true->cnt X<=1000000 from fun h=> hcn (hz.trans h));clear hz hcn hpart;cases z with
 |false=>
  have E2:=HNO.out rfl;have E3:okT X=y13:=by unfold okT;rw[if_neg (by rw[E2];decide)]
  rw[E2,E3];clear HNO HOK HCN E2 E3 HPT;go_enter Tryz.func57,Tryz.ntmps57;go_wp2_with fail;rw[<-hwS];clear hwS;refine(HAT.out _ hx0).mono ?_;rintro e w1 ⟨x,rfl,hL,h1⟩;go_wp2_with fail;refine(HCT2.out _ _ hL).mono ?_;rintro e w2 ⟨r,rfl,hM,h2⟩;obtain⟨a1,a2,a3,a4,a5,rfl⟩:=hM.three';obtain⟨s0,s1,s2,f0,f1,f2⟩:=own3 (((h1.trans h2).trans ((xr w2).alloc (.cells #[.int .i64 a1,.int .i64 a2,.slice a3 a4 a5] 25))).blk hb1);go_wp2_with fail;refine bodyPost_ret (v:= .tuple #[.agg #[.int .i64 0,.int .i64 0,.slice none 0 0],.bool false]) (by simp[results,Tryz.results57,go_sem,s0,s1,s2]) rfl ⟨_,rfl,Made.leaf _ _ _ 0 0, ?_⟩;exact((((((hx0.trans h1).trans h2).alloc _).setCell (by simp) _).setCell (by simp) _).setCell (by simp) _)
 |true=>
  have E2:=HOK.out rfl;have HC:=HCN.out rfl;rw[E2] at HCT2;clear HNO HOK HCN E2;go_enter Tryz.func57,Tryz.ntmps57;go_wp2_with fail;rw[<-hwS];clear hwS;refine(HAT.out _ hx0).mono ?_;rintro e w1 ⟨x,rfl,hL,h1⟩;go_wp2_with fail;refine(HCT2.out _ _ hL).mono ?_;rintro e w2 ⟨r,rfl,hM,h2⟩;obtain⟨a1,a2,a3,a4,a5,rfl⟩:=hM.three';have h3:=(xr w2).alloc (.cells #[.int .i64 a1,.int .i64 a2,.slice a3 a4 a5] 25);have h13:=(h1.trans h2).trans h3;obtain⟨z0,z1,z2,-,-,-⟩:=own3 (h13.blk hb0);have hL3:=hM.lies.ext h3;clear hM hL;go_wp2_with fail;refine(HPT.out _ (hx0.trans h13) _ hL3).mono ?_;rintro e w4 ⟨y,rfl,hY,h4⟩;have hLY:Lies w4 X y:=InT.mono (fun b hb=> by rcases hb with h|h;exact Nat.lt_of_lt_of_le h h4.size;exact h.2) (fun _ _=> rfl) hY;clear hY hL3;go_wp2_with fail;refine(q35 _ _ _ hLY HC).mono ?_;rintro e w5 ⟨yo,rfl,hMo,h5⟩;go_wp2_with fail;refine(q34 hMo).mono ?_;rintro e w6 ⟨b1,b2,b3,b4,b5,rfl,hM6,h6⟩;have h16:=((h13.trans h4).trans h5).trans h6;obtain⟨s0,s1,s2,f0,f1,f2⟩:=own3 (h16.blk hb1);have hw4:w.heap.size+2<=w4.heap.size:=by have:=hx0.size;have:=(h13.trans h4).size;omega
  go_wp2_with fail;refine bodyPost_ret (v:= .tuple #[.agg #[.int .i64 b1,.int .i64 b2,.slice b3 b4 b5],.bool (valid sigT X)]) (by simp[results,Tryz.results57,go_sem,s0,s1,s2]) rfl ⟨_,rfl,Made.since (hM6.after ((((q23.refl _ _).setCell (p:=⟨w.heap.size+1,0,none⟩) (by show w.heap.size+1 < _;omega) (.int .i64 b1)).setCell (p:=⟨w.heap.size+1,1,none⟩) (by show w.heap.size+1 < _;omega) (.int .i64 b2)).setCell (p:=⟨w.heap.size+1,2,none⟩) (by show w.heap.size+1 < _;omega) (.slice b3 b4 b5))) (by omega), ?_⟩;exact((((hx0.trans h16).setCell (by simp) _).setCell (by simp) _).setCell (by simp) _)
end Go.Proofs.YtdkamgafpphdjaaGreat
namespace Go.Proofs.YtdkamgafpphdjaaGreat
open Go.RowKit
set_option linter.unusedVariables false
open M (Hd HR Cv)
theorem y92{k:Int}(n:Int)(ks:List Tr)(h: ¬(k=5\/k=9\/k=12\/k=15\/k=16)):hdW (.mk k n ks)=([],false):=by
 have h0:rdx k ks=0:=j89 (by omega) (by omega) (by omega) (by omega) (by omega);rw[hdW,if_neg (by rw[h0];decide),if_neg (by omega),if_neg (by omega),if_neg (by omega)]
def HdE(t:M.Tm):Prop:=(∀p,hdW (enc t)=(p,true)-> ∃u,conA (enc t) p=enc u/\Hd t u)/\((hdW (enc t)).2=false-> ∀u,¬Hd t u)
theorem HdE.leaf{t:M.Tm}(h:hdW (enc t)=([],false))(no: ∀u,¬Hd t u):HdE t:=
 ⟨fun p e=> by rw[h] at e;simp at e,fun _=> no⟩
theorem HdE.root{t u:M.Tm}(h:hdW (enc t)=([],true))(e:ctrT (enc t)=enc u)(k:Hd t u):HdE t:=
 ⟨fun p q=> by
  rw[h] at q;simp only[Prod.mk.injEq,and_true] at q;subst q;exact⟨u,by rw[q211,e],k⟩,fun q=> by rw[h] at q;cases q⟩
theorem q169: ∀t:M.Tm,HdE t:=by
 intro t
 induction t with
 |var n=> exact .leaf (y92 _ _ (by omega)) fun u h=> by cases h
 |sort n=> exact .leaf (y92 _ _ (by omega)) fun u h=> by cases h
 |pi A B=> exact .leaf (y92 _ _ (by omega)) fun u h=> by cases h
 |lam A B=> exact .leaf (y92 _ _ (by omega)) fun u h=> by cases h
 |nat=> exact .leaf (y92 _ _ (by omega)) fun u h=> by cases h
 |zero=> exact .leaf (y92 _ _ (by omega)) fun u h=> by cases h
 |succ a=> exact .leaf (y92 _ _ (by omega)) fun u h=> by cases h
 |id T a b=> exact .leaf (y92 _ _ (by omega)) fun u h=> by cases h
 |refl a=> exact .leaf (y92 _ _ (by omega)) fun u h=> by cases h
 |sg A B=> exact .leaf (y92 _ _ (by omega)) fun u h=> by cases h
 |pair T a b=> exact .leaf (y92 _ _ (by omega)) fun u h=> by cases h
 |app f a i1 i2=>
  by_cases hl: ∃A b,f= .lam A b
  · obtain⟨A,b,rfl⟩:=hl
    exact .root (by simp[enc,hdW,rdx,kd,Tr.kind]) (j38 b a) (.beta A b a)
  · have hk:(enc f).kind≠4:=by intro h;cases f <;> simp[enc,Tr.kind] at h;exact hl ⟨_,_,rfl⟩
    have h0: ¬rdx 5 [enc f,enc a]≠0:=fun h=> by
     rcases j29 h with h|h|h|h|h|h <;> first|exact hk h.2|omega
    have e:hdW (enc (.app f a))=(((0:Nat):Int)::(hdW (enc f)).1,(hdW (enc f)).2):=by
     show hdW (.mk 5 0 [enc f,enc a])=_
     rw[hdW,if_neg h0,if_pos (.inl rfl),hdWs]
     rfl
    refine⟨fun p h=> ?_,fun h u hu=> ?_⟩
    · rw[e] at h
      simp only[Prod.mk.injEq] at h;obtain⟨rfl,h2⟩:=h;obtain⟨u,h3,h4⟩:=i1.1 _ (by rw[<-h2]);refine⟨.app u a, ?_,.app a h4⟩
      show conA (.mk 5 0 [enc f,enc a]) _=_
      rw[y57 (k:=5) (n:=0) (ks:= [enc f,enc a]) (i:=0) (p:=(hdW (enc f)).1) (by simp) (j105 (enc f) _ (by rw[<-h2]))]
      show Tr.mk 5 0 [conA (enc f) _,enc a]=_
      rw[h3]
      rfl
    · rw[e] at h
      cases hu with
      |beta=> exact hl ⟨_,_,rfl⟩
      |app _ h5=> exact i1.2 h _ h5
 |elim p z s a i1 i2 i3 i4=>
  by_cases hz:a= .zero
  · subst hz
    exact .root (by simp[enc,hdW,rdx,kd,Tr.kind]) rfl (.ez p z s)
  by_cases hl: ∃b,a= .succ b
  · obtain⟨b,rfl⟩:=hl
    exact .root (by simp[enc,hdW,rdx,kd,Tr.kind]) rfl (.es p z s b)
  · have hk:(enc a).kind≠7:=by intro h;cases a <;> simp[enc,Tr.kind] at h;exact hz rfl
    have hk2:(enc a).kind≠8:=by intro h;cases a <;> simp[enc,Tr.kind] at h;exact hl ⟨_,rfl⟩
    have h0: ¬rdx 9 [enc p,enc z,enc s,enc a]≠0:=fun h=> by
     rcases j29 h with h|h|h|h|h|h <;> first|exact hk h.2|exact hk2 h.2|omega
    have e:hdW (enc (.elim p z s a))=(((3:Nat):Int)::(hdW (enc a)).1,(hdW (enc a)).2):=by
     show hdW (.mk 9 0 [enc p,enc z,enc s,enc a])=_
     rw[hdW,if_neg h0,if_neg (by omega),if_pos rfl,hdWs,hdWs,hdWs,hdWs]
     rfl
    refine⟨fun q h=> ?_,fun h u hu=> ?_⟩
    · rw[e] at h
      simp only[Prod.mk.injEq] at h;obtain⟨rfl,h2⟩:=h;obtain⟨u,h3,h4⟩:=i4.1 _ (by rw[<-h2]);refine⟨.elim p z s u, ?_,.elim p z s h4⟩
      show conA (.mk 9 0 [enc p,enc z,enc s,enc a]) _=_
      rw[y57 (k:=9) (n:=0) (ks:= [enc p,enc z,enc s,enc a]) (i:=3) (p:=(hdW (enc a)).1) (by simp) (j105 (enc a) _ (by rw[<-h2]))]
      show Tr.mk 9 0 [enc p,enc z,enc s,conA (enc a) _]=_
      rw[h3]
      rfl
    · rw[e] at h
      cases hu with
      |ez=> exact hz rfl
      |es=> exact hl ⟨_,rfl⟩
      |elim _ _ _ h5=> exact i4.2 h _ h5
 |move p m a i1 i2 i3=>
  by_cases hl: ∃b,m= .refl b
  · obtain⟨b,rfl⟩:=hl
    exact .root (by simp[enc,hdW,rdx,kd,Tr.kind]) rfl (.mr p b a)
  · have hk:(enc m).kind≠11:=by intro h;cases m <;> simp[enc,Tr.kind] at h;exact hl ⟨_,rfl⟩
    have h0: ¬rdx 12 [enc p,enc m,enc a]≠0:=fun h=> by
     rcases j29 h with h|h|h|h|h|h <;> first|exact hk h.2|omega
    have e:hdW (enc (.move p m a))=(((1:Nat):Int)::(hdW (enc m)).1,(hdW (enc m)).2):=by
     show hdW (.mk 12 0 [enc p,enc m,enc a])=_
     rw[hdW,if_neg h0,if_neg (by omega),if_neg (by omega),if_pos rfl,hdWs,hdWs]
     rfl
    refine⟨fun q h=> ?_,fun h u hu=> ?_⟩
    · rw[e] at h
      simp only[Prod.mk.injEq] at h;obtain⟨rfl,h2⟩:=h;obtain⟨u,h3,h4⟩:=i2.1 _ (by rw[<-h2]);refine⟨.move p u a, ?_,.move p a h4⟩
      show conA (.mk 12 0 [enc p,enc m,enc a]) _=_
      rw[y57 (k:=12) (n:=0) (ks:= [enc p,enc m,enc a]) (i:=1) (p:=(hdW (enc m)).1) (by simp) (j105 (enc m) _ (by rw[<-h2]))]
      show Tr.mk 12 0 [enc p,conA (enc m) _,enc a]=_
      rw[h3]
      rfl
    · rw[e] at h
      cases hu with
      |mr=> exact hl ⟨_,rfl⟩
      |move _ _ h5=> exact i2.2 h _ h5
 |fst a i1=>
  by_cases hl: ∃T x y,a= .pair T x y
  · obtain⟨T,x,y,rfl⟩:=hl
    exact .root (by simp[enc,hdW,rdx,kd,Tr.kind]) rfl (.fp T x y)
  · have hk:(enc a).kind≠14:=by intro h;cases a <;> simp[enc,Tr.kind] at h;exact hl ⟨_,_,_,rfl⟩
    have h0: ¬rdx 15 [enc a]≠0:=fun h=> by
     rcases j29 h with h|h|h|h|h|h <;> first|exact hk h.2|omega
    have e:hdW (enc (.fst a))=(((0:Nat):Int)::(hdW (enc a)).1,(hdW (enc a)).2):=by
     show hdW (.mk 15 0 [enc a])=_
     rw[hdW,if_neg h0,if_pos (.inr (.inl rfl)),hdWs]
     rfl
    refine⟨fun q h=> ?_,fun h u hu=> ?_⟩
    · rw[e] at h
      simp only[Prod.mk.injEq] at h;obtain⟨rfl,h2⟩:=h;obtain⟨u,h3,h4⟩:=i1.1 _ (by rw[<-h2]);refine⟨.fst u, ?_,.fst h4⟩
      show conA (.mk 15 0 [enc a]) _=_
      rw[y57 (k:=15) (n:=0) (ks:= [enc a]) (i:=0) (p:=(hdW (enc a)).1) (by simp) (j105 (enc a) _ (by rw[<-h2]))]
      show Tr.mk 15 0 [conA (enc a) _]=_
      rw[h3]
      rfl
    · rw[e] at h
      cases hu with
      |fp=> exact hl ⟨_,_,_,rfl⟩
      |fst h5=> exact i1.2 h _ h5
 |snd a i1=>
  by_cases hl: ∃T x y,a= .pair T x y
  · obtain⟨T,x,y,rfl⟩:=hl
    exact .root (by simp[enc,hdW,rdx,kd,Tr.kind]) rfl (.sp T x y)
  · have hk:(enc a).kind≠14:=by intro h;cases a <;> simp[enc,Tr.kind] at h;exact hl ⟨_,_,_,rfl⟩
    have h0: ¬rdx 16 [enc a]≠0:=fun h=> by
     rcases j29 h with h|h|h|h|h|h <;> first|exact hk h.2|omega
    have e:hdW (enc (.snd a))=(((0:Nat):Int)::(hdW (enc a)).1,(hdW (enc a)).2):=by
     show hdW (.mk 16 0 [enc a])=_
     rw[hdW,if_neg h0,if_pos (.inr (.inr rfl)),hdWs]
     rfl
    refine⟨fun q h=> ?_,fun h u hu=> ?_⟩
    · rw[e] at h
      simp only[Prod.mk.injEq] at h;obtain⟨rfl,h2⟩:=h;obtain⟨u,h3,h4⟩:=i1.1 _ (by rw[<-h2]);refine⟨.snd u, ?_,.snd h4⟩
      show conA (.mk 16 0 [enc a]) _=_
      rw[y57 (k:=16) (n:=0) (ks:= [enc a]) (i:=0) (p:=(hdW (enc a)).1) (by simp) (j105 (enc a) _ (by rw[<-h2]))]
      show Tr.mk 16 0 [conA (enc a) _]=_
      rw[h3]
      rfl
    · rw[e] at h
      cases hu with
      |sp=> exact hl ⟨_,_,_,rfl⟩
      |snd h5=> exact i1.2 h _ h5
theorem y153: ∀(f:Nat) (A:M.Tm) (x:Tr),hnfC f (enc A)=(x,0)-> ∃B,x=enc B/\HR A B/\ ∀C,¬Hd B C
 |0,A,x,h=> by
  cases e:hdQ (enc A) with
  |none=>
   rw[y54 e] at h;simp only[Prod.mk.injEq,and_true] at h;exact⟨A,h.symm,.refl A,(q169 A).2 (q113 e)⟩
  |some p=> rw[y94 e] at h;cases h
 |f+1,A,x,h=> by
  cases e:hdQ (enc A) with
  |none=>
   rw[y54 e] at h;simp only[Prod.mk.injEq,and_true] at h;exact⟨A,h.symm,.refl A,(q169 A).2 (q113 e)⟩
  |some p=>
   by_cases hc:valid sigT (conA (enc A) p)=true
   · rw[j136 e hc] at h
     obtain⟨u,h1,h2⟩:=(q169 A).1 p (q75 e);rw[h1] at h;obtain⟨B,h3,h4,h5⟩:=y153 f u x h;exact⟨B,h3,.step h2 h4,h5⟩
   · rw[j142 e (Bool.eq_false_iff.2 hc)] at h
     cases h
theorem j49{A:M.Tm}{x:Tr}{f:Int}(h:hnfV (enc A) f=(x,0)): ∃B,x=enc B/\HR A B/\(∀C,¬Hd B C)/\valid sigT (enc B)=true:=by
 have hv:=(q92 h).2.2.2;unfold hnfV at h
 split at h
 · obtain⟨B,rfl,h1,h2⟩:=y153 _ A x h
   exact⟨B,rfl,h1,h2,hv⟩
 · cases h
theorem y117{A B c:M.Tm}(h:HR A B)(hs: ∀C,¬Hd B C)(k:HR A c)(hc:M.hk c≠0):B=c:=by
 have:=h.after k hc;cases this with
 |refl=> rfl
 |step h1 _=> exact absurd h1 (hs _)
theorem j210{A B:M.Tm}(h:y66 (enc A) (enc B) 200=1):Cv A B:=by
 unfold y66 at h
 split at h
 · rename_i hv
   simp only[Bool.and_eq_true] at hv
   split at h
   · rename_i e
     rw[y137 e];exact Cv.rfl' _
   · split at h
     · rename_i h1
       split at h
       · rename_i h2
         obtain⟨r1,-,-⟩:=y58 (200:Int).toNat (enc A) (nrmC (200:Int).toNat (enc A)).1 hv.1 (by rw[<-h1.1]);obtain⟨r2,-,-⟩:=y58 (200:Int).toNat (enc B) (nrmC (200:Int).toNat (enc B)).1 hv.2.1 (by rw[<-h1.2]);obtain⟨m,e1,q1⟩:=q189 r1 rfl;obtain⟨m',e2,q2⟩:=q189 r2 rfl;have:m=m':=y137 (by rw[<-e1,<-e2,h2]);subst this;exact⟨m,q1,q2⟩
       · simp at h
     · simp at h
 · simp at h
theorem y195{A B:M.Tm}(h:y66 (enc A) (enc B) 200=2): ¬Cv A B:=by
 intro hc;unfold y66 at h
 split at h
 · rename_i hv
   simp only[Bool.and_eq_true] at hv
   split at h
   · simp at h
   · split at h
     · rename_i h1
       split at h
       · simp at h
       · rename_i h2
         obtain⟨r1,n1,-⟩:=y58 (200:Int).toNat (enc A) (nrmC (200:Int).toNat (enc A)).1 hv.1 (by rw[<-h1.1]);obtain⟨r2,n2,-⟩:=y58 (200:Int).toNat (enc B) (nrmC (200:Int).toNat (enc B)).1 hv.2.1 (by rw[<-h1.2]);obtain⟨C,c1,c2⟩:=hc;obtain⟨d1,e1,f1⟩:=r1.meet (q174 c1);obtain⟨d2,e2,f2⟩:=r2.meet (q174 c2);rw[e1.normal n1] at f1;rw[e2.normal n2] at f2;exact h2 (Reds.unique f1 f2 n1 n2)
     · simp at h
 · simp at h
theorem q183{A B:M.Tm}(h:cvtV (enc A) (enc B)=0):Cv A B:=j210 (cvtV_ok h)
theorem cvt_nb{A B:M.Tm}(h:Cv A B):cvtV (enc A) (enc B)=0\/cvtV (enc A) (enc B)=2:=by
 unfold cvtV
 split
 · exact .inl rfl
 · split
   · rename_i h2
     exact absurd h (y195 h2)
   · exact .inr rfl
theorem kind2{B:M.Tm}(h:(enc B).kind=2): ∃n,B= .sort n:=by
 cases B <;> simp[enc,Tr.kind] at h;exact⟨_,rfl⟩
theorem kind3{B:M.Tm}(h:(enc B).kind=3): ∃C R,B= .pi C R:=by
 cases B <;> simp[enc,Tr.kind] at h;exact⟨_,_,rfl⟩
theorem kind10{B:M.Tm}(h:(enc B).kind=10): ∃T a b,B= .id T a b:=by
 cases B <;> simp[enc,Tr.kind] at h;exact⟨_,_,_,rfl⟩
theorem kind13{B:M.Tm}(h:(enc B).kind=13): ∃C R,B= .sg C R:=by
 cases B <;> simp[enc,Tr.kind] at h;exact⟨_,_,rfl⟩
end Go.Proofs.YtdkamgafpphdjaaGreat
namespace Go.Proofs.YtdkamgafpphdjaaGreat
open Go.RowKit
set_option linter.unusedVariables false
theorem j106(ks:List Tr): ∀(j:Nat) (t x:Tr),valid sigT t=true->unfD ks j t=(x,true)->valid sigT x=true
 |0,t,x,hv,e=> by
  cases e
  exact hv
 |j+1,t,x,hv,e=> by
  unfold unfD at e
  split at e
  · rename_i h
    exact j106 ks j _ x h e
  · cases e
end Go.Proofs.YtdkamgafpphdjaaGreat
namespace Go.Proofs.YtdkamgafpphdjaaGreat
open Go.RowKit
set_option linter.unusedVariables false
attribute [local go_sem ↓] Go.wp_at_zero Go.wp_at_succ
theorem j176{ks:List Tr}{t:Tr}{j m:Nat}(h: ∀x∈ks,cnt x<=m)(ht:cnt t<=m): ∀x∈ks.set j t,cnt x<=m:=fun x hx=> by
 rcases List.mem_or_eq_of_mem_set hx with hx|rfl
 · exact h x hx
 · exact ht
theorem q131(ks:List Tr)(n cap:Nat)(w:World)(g m:Nat)(A:Option Addr)(h:y16 w A ks)(hn:ks.length=n*2)(hl:n<=cap)(hc:cap<=maxLen)(hv: ∀t∈ks,valid sigT t=true)(hn8:n<=8)(hR:Rd w g m)(hm:m < 800000):
 Calls Tryz.prog 75 #[.pointer (some ⟨g,0,none⟩),.slice A n cap] w fun e w'=> ∃A' n' cap' ks',e= .returned (.slice A' n' cap')/\n'<=cap'/\cap'<=maxLen/\(A'=none->cap'=0)/\ks'.length=n'*2/\n'<=9/\(∀t∈ks',cnt t<=401)/\j18 w.heap.size w' A' ks'/\Rd w' g (m+1030)/\Only [g] w w':=by
 have hgl:=hR.lt;have hcn: ∀t∈ks,cnt t<=400:=fun t ht=>(j11 (hv t ht)).2
 go_enter Tryz.func75,Tryz.ntmps75;go_wp2_with fail;refine(y158 ks n cap w A h hn hl hc (fun t ht=> by have:=hcn t ht;omega) (by omega)).mono ?_;rintro e w1 ⟨v,rfl,hG,e1⟩;go_wp2_with fail;refine(q60 w1 g m 30 (hR.ext e1) (by omega)).mono ?_;rintro e w2 ⟨x,rfl,hx0,-,hR2,ho2⟩;have hO2:Only [g] w w2:=(oE e1).trans ho2;have hG2:=hG.only ho2 (by intro b hb;rw[List.mem_singleton.1 hb];exact hgl);have hs2:=hO2.size;clear hG hR h ho2 e1;obtain⟨A2,c2,rfl,q1,q2,hK2⟩:=hG2.slice;have hcp2:=hG2.cap;by_cases hx:x=0
 · subst hx
   by_cases hn0:n=0
   · subst hn0
     go_wp2_with fail;go_ret;exact⟨A2,0,c2,ks,rfl,q1,q2,hcp2,hn,by decide,fun t ht=> by have:=hcn t ht;omega,hK2,hR2.mono (by omega),hO2⟩
   · obtain⟨n1,rfl⟩: ∃k,n=k+1:=⟨n - 1,by omega⟩
     obtain⟨r,cp,he,hr1,hr2,-,-,hcell⟩:=hG2.row (by omega);simp only[Value.slice.injEq,true_and] at he;obtain⟨rfl,rfl⟩:=he;have hp:decide ((0:Int) <((n1+1:Nat):Int))=true:=decide_eq_true (by omega);go_wp2_with fail;refine(j172 w2 g _ hR2 (by omega)).mono ?_;rintro e w3 ⟨t,u,rfl,hvt,hF,hR3,ho3⟩;obtain⟨k3,n3,A3,l3,c3,rfl⟩:=hF.three;have hG3:=hG2.only ho3 (by intro b hb;rw[List.mem_singleton.1 hb];exact hgl);obtain⟨r',cp',he,-,-,-,-,hcell⟩:=hG3.row (by omega);simp only[Value.slice.injEq,Option.some.injEq,Addr.mk.injEq,and_true,true_and] at he;obtain⟨rfl,rfl⟩:=he;obtain⟨x0,y0,z0⟩:=hcell (n1*6+3) (by omega);obtain⟨x1,y1,z1⟩:=hcell (n1*6+3+1) (by omega);obtain⟨x2,y2,z2⟩:=hcell (n1*6+3+2) (by omega);have hset:=hG3.set (j:=n1*2+1) (t:=t) (v0:= .int .i64 k3) (v1:= .int .i64 n3) (v2:= .slice A3 l3 c3) (by omega) (InT.mono (fun b hb=>⟨by have:=hb.1;omega,hb.2,by have:=hb.1;omega⟩) (fun _ _=> rfl) hF);rw[show(n1*2+1)*3=n1*6+3 by omega] at hset;have hwr:IntKind.i64.wrap (((n1+1:Nat):Int) - 1)=(n1:Int):=by rw[show((n1+1:Nat):Int) - 1=(n1:Int) by omega];exact IntWalk.i64_in _ ⟨by omega,by omega⟩
     have hn1:(n1:Int) <((n1+1:Nat):Int):=by omega
     have hR6:=((((hR3.mono (show _<=m+1030 by omega)).set (p:=⟨r,n1*6+3,none⟩) (by show g < r;omega) (.int .i64 k3)).set (p:=⟨r,n1*6+3+1,none⟩) (by show g < r;omega) (.int .i64 n3)).set (p:=⟨r,n1*6+3+2,none⟩) (by show g < r;omega) (.slice A3 l3 c3));have hO6:=(((hO2.trans ho3).setNew (p:=⟨r,n1*6+3,none⟩) (by show _<=r;omega) (.int .i64 k3)).setNew (p:=⟨r,n1*6+3+1,none⟩) (by show _<=r;omega) (.int .i64 n3)).setNew (p:=⟨r,n1*6+3+2,none⟩) (by show _<=r;omega) (.slice A3 l3 c3);have hcs:=j176 (j:=n1*2+1) (t:=t) (m:=401) (fun t ht=> by have:=hcn t ht;omega) (by have:=(j11 hvt).2;omega);obtain⟨A7,c7,he7,q7,q8,hK7⟩:=hset.slice;simp only[Value.slice.injEq,true_and] at he7;obtain⟨rfl,rfl⟩:=he7;clear hcell hG2 hG3 hset hK2 ho3 hO2 hR2 hR3;go_wp2_with fail;go_ret;exact⟨_,_,_,_,rfl,q7,q8,(fun h=> by cases h),by simpa using hn,by omega,hcs,hK7,hR6,hO6⟩
 · have hxb0:(x==0)=false:=beq_eq_false_iff_ne.2 hx
   by_cases hx1:x=1
   · subst hx1
     by_cases hn0:n=0
     · subst hn0
       go_wp2_with fail;go_ret;exact⟨A2,0,c2,ks,rfl,q1,q2,hcp2,hn,by decide,fun t ht=> by have:=hcn t ht;omega,hK2,hR2.mono (by omega),hO2⟩
     · obtain⟨n1,rfl⟩: ∃k,n=k+1:=⟨n - 1,by omega⟩
       obtain⟨r,cp,he,hr1,hr2,-,-,hcell⟩:=hG2.row (by omega);simp only[Value.slice.injEq,true_and] at he;obtain⟨rfl,rfl⟩:=he;have hp:decide ((0:Int) <((n1+1:Nat):Int))=true:=decide_eq_true (by omega);go_wp2_with fail;refine(y17 w2 1 0).mono ?_;rintro e wl ⟨rfl,el⟩;go_wp2_with fail;refine(y87 (.mk 1 0 []) wl g _ _ (Lies.leaf wl 1 0) (by decide) (hR2.ext el) (by omega)).mono ?_;rintro e w3 ⟨t,u,rfl,hct,hF,hR3,ho3⟩;have hct2:cnt t<=2:=hct;obtain⟨k3,n3,A3,l3,c3,rfl⟩:=hF.three;have hsl:=el.size;have hG3:=(hG2.ext el).only ho3 (by intro b hb;rw[List.mem_singleton.1 hb];exact hgl);obtain⟨r',cp',he,-,-,-,-,hcell⟩:=hG3.row (by omega);simp only[Value.slice.injEq,Option.some.injEq,Addr.mk.injEq,and_true,true_and] at he;obtain⟨rfl,rfl⟩:=he;obtain⟨x0,y0,z0⟩:=hcell 0 (by omega);obtain⟨x1,y1,z1⟩:=hcell 1 (by omega);obtain⟨x2,y2,z2⟩:=hcell 2 (by omega);have hset:=hG3.set (j:=0) (t:=t) (v0:= .int .i64 k3) (v1:= .int .i64 n3) (v2:= .slice A3 l3 c3) (by omega) (InT.mono (fun b hb=>⟨by have:=hb.1;omega,hb.2,by have:=hb.1;omega⟩) (fun _ _=> rfl) hF);simp only[Nat.zero_mul,Nat.zero_add] at hset;have hn1:(0:Int) <((n1+1:Nat):Int):=by omega
       have hR6:=((((hR3.mono (show _<=m+1030 by omega)).set (p:=⟨r,0,none⟩) (by show g < r;omega) (.int .i64 k3)).set (p:=⟨r,1,none⟩) (by show g < r;omega) (.int .i64 n3)).set (p:=⟨r,2,none⟩) (by show g < r;omega) (.slice A3 l3 c3));have hO6:=((((hO2.trans (oE (L:= [g]) el)).trans ho3).setNew (p:=⟨r,0,none⟩) (by show _<=r;omega) (.int .i64 k3)).setNew (p:=⟨r,1,none⟩) (by show _<=r;omega) (.int .i64 n3)).setNew (p:=⟨r,2,none⟩) (by show _<=r;omega) (.slice A3 l3 c3);have hcs:=j176 (j:=0) (t:=t) (m:=401) (fun t ht=> by have:=hcn t ht;omega) (by omega);obtain⟨A7,c7,he7,q7,q8,hK7⟩:=hset.slice;simp only[Value.slice.injEq,true_and] at he7;obtain⟨rfl,rfl⟩:=he7;clear hcell hG2 hG3 hset hK2 ho3 hO2 hR2 hR3;go_wp2_with fail;go_ret;exact⟨_,_,_,_,rfl,q7,q8,(fun h=> by cases h),by simpa using hn,by omega,hcs,hK7,hR6,hO6⟩
   · have hxb1:(x==1)=false:=beq_eq_false_iff_ne.2 hx1
     by_cases hx2:x=2
     · subst hx2
       obtain⟨i0,hi,hz0,hz1,hz2⟩:=info_parts q156;have hsw2:=hO2.size;go_wp2_with fail
       go_loopw [5] (fun vo wr=> ∃(A':Option Addr) (n' c':Nat) (ks':List Tr),.slice A' n' c'=vo/\q25 w wr 83 (.slice A' n' c') ks' n'/\n'<=9/\(∀t∈ks',cnt t<=401)/\Rd wr g (m+1030)/\Only [g] w wr) (fun v _=> match v with| .slice _ n _=> 10 - n|_=> 0)
       case atStart=> exact⟨_,n,_,ks,rfl,hG2,by omega,fun t ht=> by have:=hcn t ht;omega,hR2.mono (by omega),hO2⟩
       case round=>
        obtain⟨A',n',c',ks',rfl,hG',hn9,hcn',hR',hO'⟩:=hrel;have hsr:=hO'.size;by_cases hlt:n'<=8
        · have hd:decide ((n':Int)<=8)=true:=decide_eq_true (by omega)
          have hcx:=hdq hcn';clear hcn' hG2 hK2 hR2 hO2;go_wp2_with fail;refine(y17 _ 6 0).mono ?_;rintro e w5 ⟨rfl,e5⟩;go_wp2_with fail;refine(y17 _ 7 0).mono ?_;rintro e w6 ⟨rfl,e6⟩;have hx6:=(e5.trans e6).alloc (.cells #[.int .i64 6,.int .i64 0,.slice none 0 0,.int .i64 7,.int .i64 0,.slice none 0 0] 83);have hG6:=hG'.ext hx6;have hB6:=heap_alloc_new w6 (.cells #[.int .i64 6,.int .i64 0,.slice none 0 0,.int .i64 7,.int .i64 0,.slice none 0 0] 83);go_wp2_with (at_builtin;refine y43 _ rfl (.tmp 39) (.tmp 43) 41 rfl 83 i0 _ Tryz.underlying41 hi hz0 hz1 hz2 rfl rfl hG6 (by have:=hx6.size;omega) (InT.mk_iff.2 ⟨none,0,rfl,Nat.le_refl _,Nat.zero_le _,.inl rfl⟩) (InT.mk_iff.2 ⟨none,0,rfl,Nat.le_refl _,Nat.zero_le _,.inl rfl⟩) rfl hB6 (by omega) ?_)
          intro v' w7 hG7 hB7 _ _;obtain⟨A7,c7,rfl,-,-,-⟩:=hG7.slice;have hR7:=(hR'.ext hx6).under hB7 hgl;have hO7:Only [g] w w7:=⟨hB7.os.trans (hx6.os.trans hO'.os),hB7.tape.trans (hx6.tape.trans hO'.tape),hB7.output.trans (hx6.output.trans hO'.output),Nat.le_trans hO'.size (Nat.le_trans hx6.size hB7.size),fun b hb hn=>(hB7.block b hb).trans ((hx6.heap b (by omega)).trans (hO'.block b hb hn))⟩;clear hG6 hB6;go_wp2_with fail
          go_roundw
          case rel=> exact⟨_,n'+1,_,ks'++ [.mk 6 0 [],.mk 7 0 []],rfl,hG7,by omega,fun t ht=> by
           rcases List.mem_append.1 ht with ht|ht
           · exact hcx.out t ht
           · simp only[List.mem_cons,List.not_mem_nil,or_false] at ht
             rcases ht with rfl|rfl <;> decide,hR7,hO7⟩
          case measure=> simp;omega
        · have hd:decide ((n':Int)<=8)=false:=decide_eq_false (by omega)
          obtain⟨A7,c7,he7,q7,q8,hK7⟩:=hG'.slice;simp only[Value.slice.injEq,true_and] at he7;obtain⟨rfl,rfl⟩:=he7;have hl7:=hG'.1;clear hG2 hK2 hR2 hO2;go_wp2_with fail;go_ret;exact⟨_,_,_,ks',rfl,q7,q8,hG'.cap,hl7,hn9,hcn',hK7,hR',hO'⟩
     · have hxb2:(x==2)=false:=beq_eq_false_iff_ne.2 hx2
       by_cases hx3:x=3
       · subst hx3
         by_cases hn0:n=0
         · subst hn0
           go_wp2_with fail;go_ret;exact⟨A2,0,c2,ks,rfl,q1,q2,hcp2,hn,by decide,fun t ht=> by have:=hcn t ht;omega,hK2,hR2.mono (by omega),hO2⟩
         · obtain⟨n1,rfl⟩: ∃k,n=k+1:=⟨n - 1,by omega⟩
           obtain⟨r,cp,he,hr1,hr2,-,-,hcell⟩:=hG2.row (by omega);simp only[Value.slice.injEq,true_and] at he;obtain⟨rfl,rfl⟩:=he;have hp:decide ((0:Int) <((n1+1:Nat):Int))=true:=decide_eq_true (by omega);have hkd:(ks.drop 2).length=n1*2:=by rw[List.length_drop];omega
           have hcd: ∀t∈ks.drop 2,cnt t<=401:=fun t ht=> by have:=hcn t (List.mem_of_mem_drop ht);omega
           unfold maxLen at q2;have hKd:=j18.tailD hK2 (by intro h;rw[h] at hn;simp at hn);simp only[Nat.zero_add] at hKd;go_wp2_with fail
           · go_ret
             exact⟨_,_,_,rfl,by omega,by unfold maxLen;omega,(fun h=> by cases h), [],by simp;omega,by omega,by simp,.inl rfl,hR2.mono (by omega),hO2⟩
           · go_ret
             exact⟨_,_,_,rfl,by omega,by unfold maxLen;omega,(fun h=> by cases h),ks.drop 2,hkd,by omega,hcd,hKd,hR2.mono (by omega),hO2⟩
       · have hxb3:(x==3)=false:=beq_eq_false_iff_ne.2 hx3
         go_wp2_with fail;go_ret;exact⟨A2,n,c2,ks,rfl,q1,q2,hcp2,hn,by omega,fun t ht=> by have:=hcn t ht;omega,hK2,hR2.mono (by omega),hO2⟩
end Go.Proofs.YtdkamgafpphdjaaGreat
namespace Go.Proofs.YtdkamgafpphdjaaGreat
open Go.RowKit
set_option linter.unusedVariables false
theorem y85{w:World}{base:Nat}{v:Value}{p:List Int}(h:w.ownsRow base 3 1 v p.length (p.map (Value.int .i64))): ∃B c,v= .slice B p.length c/\PFs w B p.length c p:=by
 obtain⟨B,c,rfl,h1,h2,h3⟩:=y25 h;exact⟨B,c,rfl,rfl,h1,h2,h3⟩
end Go.Proofs.YtdkamgafpphdjaaGreat

/-
  Lemmas towards the law, 34: MInf, DrawU, Norm.
-/
import Derived.Test.YtdkamgafpphdjaaGreatUBG
set_option maxHeartbeats 4000000
set_option maxRecDepth 100000
namespace Go.Proofs.YtdkamgafpphdjaaGreat
open Go.RowKit
set_option linter.unusedVariables false
open M (Hd HR Cv Ty Lim WfL TyB Lev)
def ctxE(G:List M.Tm):List Tr:=(G.map enc).reverse
theorem q39(G:List M.Tm):(ctxE G).length=G.length:=by simp[ctxE]
theorem q26(A:M.Tm)(G:List M.Tm):ctxE (A::G)=ctxE G++ [enc A]:=by simp[ctxE]
theorem y204{G:List M.Tm}{n:Nat}(h:n < G.length):kd (ctxE G) (G.length - 1 - n)=enc G[n]:=by
 unfold kd ctxE;rw[List.getD_eq_getElem?_getD,List.getElem?_reverse (by simp;omega)];simp only[List.length_map,List.getElem?_map];rw[show G.length - 1 -(G.length - 1 - n)=n by omega,List.getElem?_eq_getElem h]
 rfl
theorem y154(p:M.Tm):stpT (enc p)=enc (M.stepTy p):=by
 have h1:=j118 1 p 0;have h2:=j118 2 p 0;rw[q116] at h1 h2;unfold stpT M.stepTy;simp only[enc,natT,varT];rw[show shfT 1 (enc p) 0=enc (p.ren fun i=> i+1) from h1,show shfT 2 (enc p) 0=enc (p.ren fun i=> i+2) from h2]
 rfl
theorem j175{G:List M.Tm}{n:Nat}(h:n < G.length):lkV (ctxE G) (n:Int)=mkV (enc (G[n].ren fun i=> i+(n+1))):=by
 unfold lkV;rw[if_neg (by rw[q39];omega),q39,show(n:Int).toNat=n by omega,y204 h];have:=j118 (n+1) G[n] 0;rw[q116] at this;rw[<-this]
 rfl
theorem lk_get{G:List M.Tm}{n:Nat}(h:n < G.length):M.lk G n=some (G[n].ren fun i=> i+(n+1)):=by
 unfold M.lk;rw[List.getElem?_eq_getElem h]
 rfl
section
variable (f : Nat) (G : List Tr)
theorem q218{k:Int}{ks:List Tr}{i:Nat}(h:und k i=0):tyV (infV f) G k ks i=infV f G (kd ks i):=by unfold tyV;rw[if_pos h]
theorem j90{k:Int}{ks:List Tr}(h:und k 1=1):tyV (infV f) G k ks 1=if 20<=G.length then some (y13,2) else infV f (G++ [kd ks 0]) (kd ks 1):=by unfold tyV;rw[if_neg (by rw[h];decide)]
end
theorem pty{f:Nat}{G:List Tr}{k:Int}{ks:List Tr}{i:Nat}{r:Tr×Int}(h:und k i=0)(e:tyV (infV f) G k ks i=some r):infV f G (kd ks i)=some r:=by rwa [q218 f G h] at e
theorem uty{f:Nat}{G:List Tr}{k:Int}{ks:List Tr}{s:Tr}(h:und k 1=1)(e:tyV (infV f) G k ks 1=some (s,0)):G.length < 20/\infV f (G++ [kd ks 0]) (kd ks 1)=some (s,0):=by
 rw[j90 f G h] at e
 split at e
 · simp at e
 · exact⟨by omega,e⟩
theorem y11{k n:Int}{ks:List Tr}{x:Tr}(h:valid sigT (.mk k n ks)=true)(hm:x∈ks):valid sigT x=true:=q56 h hm
structure y26 (G:List M.Tm):Prop where
 wf:WfL G
 vd: ∀A∈G,valid sigT (enc A)=true
theorem y26.nil:y26 []:=⟨WfL.nil,fun _ h=> by simp at h⟩
theorem y26.cons{G:List M.Tm}{A:M.Tm}(h:y26 G)(b:TyB G A)(v:valid sigT (enc A)=true):y26 (A::G):=
 ⟨h.wf.cons b,fun B hB=> by
  rcases List.mem_cons.1 hB with rfl|hB
  · exact v
  · exact h.vd B hB⟩
def Snd(f:Nat):Prop:= ∀(G:List M.Tm) (t:M.Tm) (x:Tr),y26 G->valid sigT (enc t)=true->infV f (ctxE G) (enc t)=some (x,0)-> ∃A,x=enc A/\Ty G t A/\Lim G t/\valid sigT (enc A)=true
theorem y33{f:Nat}(ih:Snd f){G:List M.Tm}{A:M.Tm}{s:Tr}(hG:y26 G)(hv:valid sigT (enc A)=true)(h:frmV (infV f (ctxE G) (enc A)) 2=some (s,0)): ∃S i,s=enc (.sort i)/\Ty G A S/\HR S (.sort i)/\Lim G A/\TyB G A/\i<=3:=by
 obtain⟨u,h1,h2,h3⟩:=j46 h;obtain⟨S,rfl,tA,lA,vS⟩:=ih G A u hG hv h1;obtain⟨B,rfl,r,-,-⟩:=j49 h2;obtain⟨i,rfl⟩:=kind2 h3;have hi:=M.lev_le (Lim.type tA hG.wf lA) r;exact⟨S,i,rfl,tA,r,lA,⟨lA,i,hi,S,tA,r⟩,hi⟩
theorem q176{f:Nat}(ih:Snd f){G:List M.Tm}{t:M.Tm}{s:Tr}(hG:y26 G)(hv:valid sigT (enc t)=true)(h:frmV (infV f (ctxE G) (enc t)) 3=some (s,0)): ∃F C R,s=enc (.pi C R)/\Ty G t F/\HR F (.pi C R)/\Lim G t/\valid sigT (enc C)=true/\valid sigT (enc R)=true:=by
 obtain⟨u,h1,h2,h3⟩:=j46 h;obtain⟨F,rfl,tA,lA,vS⟩:=ih G t u hG hv h1;obtain⟨B,rfl,r,-,vB⟩:=j49 h2;obtain⟨C,R,rfl⟩:=kind3 h3;exact⟨F,C,R,rfl,tA,r,lA,y11 vB (by simp),y11 vB (by simp)⟩
theorem snd_sg{f:Nat}(ih:Snd f){G:List M.Tm}{t:M.Tm}{s:Tr}(hG:y26 G)(hv:valid sigT (enc t)=true)(h:frmV (infV f (ctxE G) (enc t)) 13=some (s,0)): ∃F C R,s=enc (.sg C R)/\Ty G t F/\HR F (.sg C R)/\Lim G t/\valid sigT (enc C)=true/\valid sigT (enc R)=true:=by
 obtain⟨u,h1,h2,h3⟩:=j46 h;obtain⟨F,rfl,tA,lA,vS⟩:=ih G t u hG hv h1;obtain⟨B,rfl,r,-,vB⟩:=j49 h2;obtain⟨C,R,rfl⟩:=kind13 h3;exact⟨F,C,R,rfl,tA,r,lA,y11 vB (by simp),y11 vB (by simp)⟩
theorem snd_id{f:Nat}(ih:Snd f){G:List M.Tm}{t:M.Tm}{s:Tr}(hG:y26 G)(hv:valid sigT (enc t)=true)(h:frmV (infV f (ctxE G) (enc t)) 10=some (s,0)): ∃F T a b,s=enc (.id T a b)/\Ty G t F/\HR F (.id T a b)/\Lim G t/\valid sigT (enc T)=true/\valid sigT (enc a)=true/\valid sigT (enc b)=true:=by
 obtain⟨u,h1,h2,h3⟩:=j46 h;obtain⟨F,rfl,tA,lA,vS⟩:=ih G t u hG hv h1;obtain⟨B,rfl,r,-,vB⟩:=j49 h2;obtain⟨T,a,b,rfl⟩:=kind10 h3;exact⟨F,T,a,b,rfl,tA,r,lA,y11 vB (by simp),y11 vB (by simp),y11 vB (by simp)⟩
theorem j35{f:Nat}(ih:Snd f){G:List M.Tm}{t W:M.Tm}{y:An}{u:Tr}(hG:y26 G)(hv:valid sigT (enc t)=true)(h:chkV (infV f (ctxE G) (enc t)) (enc W) y=some (u,0)): ∃X,Ty G t X/\Cv X W/\Lim G t/\y=some (u,0):=by
 obtain⟨s,h1,h2,h3⟩:=y34 h;obtain⟨X,rfl,tX,lX,-⟩:=ih G t s hG hv h1;exact⟨X,tX,q183 h2,lX,h3⟩
theorem q179{f:Nat}(ih:Snd f){G:List M.Tm}{p T:M.Tm}{y:An}{u:Tr}(hG:y26 G)(hv:valid sigT (enc p)=true)(h:famV (infV f (ctxE G) (enc p)) (enc T) y=some (u,0)): ∃F C D k,Ty G p F/\HR F (.pi C D)/\Cv C T/\HR D (.sort k)/\Lim G p/\y=some (u,0):=by
 obtain⟨F0,s,c,h1,h2,h3,h4,h5,h6,h7⟩:=j137 h;obtain⟨F,C,D,rfl,tF,rF,lF,-,-⟩:=q176 ih hG hv (s:=s) (by
  unfold frmV thn;rw[h1];simp only[if_true];unfold shpV;rw[if_neg (by rw[h2];simp),if_neg (by rw[h2];simpa using h3),h2])
 obtain⟨B,rfl,r,-,-⟩:=j49 (show hnfV (enc D) 200=(c,0) from h5);obtain⟨k,rfl⟩:=kind2 h6;exact⟨F,C,D,k,tF,rF,q183 h4,r,lF,h7⟩
theorem snd: ∀f,Snd f
 |0=> fun G t x hG hv h=> by cases h
 |f+1=> fun G t x hG hv h=> by
  have ih:=snd f;cases t with
  |var n=>
   have h1:some (lkV (ctxE G) (n:Int))=some (x,0):=h;by_cases hn:n < G.length
   · rw[j175 hn] at h1
     obtain⟨v,rfl⟩:=j27 h1;exact⟨_,rfl,.var (lk_get hn),trivial,v⟩
   · unfold lkV at h1
     rw[if_pos (by rw[q39];omega)] at h1;simp at h1
  |sort n=>
   have h1:some (if(n:Int)=3 then(y13,(1:Int)) else(srtT ((n:Int)+1),0))=some (x,0):=by
    rw[<-h];simp[enc,infV,judV]
   split at h1
   · simp at h1
   · rename_i hn
     simp only[Option.some.injEq,Prod.mk.injEq,and_true] at h1;have hle:(n:Int)<=3:=(y12 (j11 hv).1).2.2.1;refine⟨.sort (n+1),by rw[<-h1];rfl,.sort,by show n < 3;omega, ?_⟩;have: ∀m:Fin 4,valid sigT (enc (.sort m.val))=true:=by decide+kernel
     exact this ⟨n+1,by omega⟩
  |nat=>
   have h1:some (srtT 0,(0:Int))=some (x,0):=h;simp only[Option.some.injEq,Prod.mk.injEq,and_true] at h1;exact⟨.sort 0,by rw[<-h1];rfl,.nat,trivial,by decide+kernel⟩
  |zero=>
   have h1:some (natT,(0:Int))=some (x,0):=h;simp only[Option.some.injEq,Prod.mk.injEq,and_true] at h1;exact⟨.nat,by rw[<-h1];rfl,.zero,trivial,by decide+kernel⟩
  |succ a=>
   have h1:chkV (infV f (ctxE G) (enc a)) (enc .nat) (some (natT,0))=some (x,0):=h;obtain⟨X,tX,cX,lX,h2⟩:=j35 ih hG (y11 hv (by simp)) h1;simp only[Option.some.injEq,Prod.mk.injEq,and_true] at h2;exact⟨.nat,by rw[<-h2];rfl,.succ tX cX,lX,by decide+kernel⟩
  |pi A B=>
   have h1:thn (frmV (infV f (ctxE G) (enc A)) 2) (fun a=> thn (frmV (tyV (infV f) (ctxE G) 3 [enc A,enc B] 1) 2) fun b=> some (srtT (max a.num b.num),0))=some (x,0):=h;obtain⟨s,h2,h3⟩:=j15 h1;obtain⟨S,i,rfl,tA,rA,lA,bA,hi⟩:=y33 ih hG (y11 hv (by simp)) h2;obtain⟨s2,h4,h5⟩:=j15 h3;obtain⟨u,h6,h7,h8⟩:=j46 h4;obtain⟨h9,h10⟩:=uty rfl h6;have hG':=hG.cons bA (y11 hv (by simp));rw[show ctxE G++ [kd [enc A,enc B] 0]=ctxE (A::G) from(q26 A G).symm] at h10;obtain⟨S',j,rfl,tB,rB,lB,bB,hj⟩:=y33 ih hG' (y11 hv (by simp)) (A:=B) (s:=s2) (by
    unfold frmV thn;rw[show infV f (ctxE (A::G)) (enc B)=some (u,0) from h10];simp only[if_true];unfold shpV;rw[if_neg (by rw[h7];simp),if_neg (by rw[h7];simpa using h8),h7])
   simp only[Option.some.injEq,Prod.mk.injEq,and_true] at h5;refine⟨.sort (max i j),by rw[<-h5];simp only[enc,Tr.num,srtT];congr 1;omega,.pi tA rA tB rB,⟨lA,lB⟩, ?_⟩;have: ∀m:Fin 4,valid sigT (enc (.sort m.val))=true:=by decide+kernel
   exact this ⟨max i j,by omega⟩
  |sg A B=>
   have h1:thn (frmV (infV f (ctxE G) (enc A)) 2) (fun a=> thn (frmV (tyV (infV f) (ctxE G) 13 [enc A,enc B] 1) 2) fun b=> some (srtT (max a.num b.num),0))=some (x,0):=h;obtain⟨s,h2,h3⟩:=j15 h1;obtain⟨S,i,rfl,tA,rA,lA,bA,hi⟩:=y33 ih hG (y11 hv (by simp)) h2;obtain⟨s2,h4,h5⟩:=j15 h3;obtain⟨u,h6,h7,h8⟩:=j46 h4;obtain⟨h9,h10⟩:=uty rfl h6;have hG':=hG.cons bA (y11 hv (by simp));rw[show ctxE G++ [kd [enc A,enc B] 0]=ctxE (A::G) from(q26 A G).symm] at h10;obtain⟨S',j,rfl,tB,rB,lB,bB,hj⟩:=y33 ih hG' (y11 hv (by simp)) (A:=B) (s:=s2) (by
    unfold frmV thn;rw[show infV f (ctxE (A::G)) (enc B)=some (u,0) from h10];simp only[if_true];unfold shpV;rw[if_neg (by rw[h7];simp),if_neg (by rw[h7];simpa using h8),h7])
   simp only[Option.some.injEq,Prod.mk.injEq,and_true] at h5;refine⟨.sort (max i j),by rw[<-h5];simp only[enc,Tr.num,srtT];congr 1;omega,.sg tA rA tB rB,⟨lA,lB⟩, ?_⟩;have: ∀m:Fin 4,valid sigT (enc (.sort m.val))=true:=by decide+kernel
   exact this ⟨max i j,by omega⟩
  |lam A t=>
   have h1:thn (frmV (infV f (ctxE G) (enc A)) 2) (fun _=> thn (tyV (infV f) (ctxE G) 4 [enc A,enc t] 1) fun b=> thn (some (mkV (.mk 3 0 [enc A,b]))) fun out=> thn (infV f (ctxE G) out) fun _=> some (out,0))=some (x,0):=h;obtain⟨s,h2,h3⟩:=j15 h1;obtain⟨S,i,rfl,tA,rA,lA,bA,hi⟩:=y33 ih hG (y11 hv (by simp)) h2;obtain⟨b,h4,h5⟩:=j15 h3;obtain⟨h6,h7⟩:=uty rfl h4;have hG':=hG.cons bA (y11 hv (by simp));rw[show ctxE G++ [kd [enc A,enc t] 0]=ctxE (A::G) from(q26 A G).symm] at h7;obtain⟨B,rfl,tB,lB,vB⟩:=ih (A::G) t b hG' (y11 hv (by simp)) h7;obtain⟨h8,h9⟩:=y65 h5;obtain⟨v,e⟩:=y86 h8;rw[e] at h9;obtain⟨s3,h10,h11⟩:=j15 h9;obtain⟨P,rfl,tP,lP,-⟩:=ih G (.pi A B) s3 hG v h10;simp only[Option.some.injEq,Prod.mk.injEq,and_true] at h11;refine⟨.pi A B,h11.symm,.lam tA rA tB,⟨lA,lB,fun B' k' hB hk=> ?_⟩,v⟩;obtain rfl:=tB.det hB;cases tP with
   |pi k1 k2 k3 k4=>
    have:=M.lev_le (Lim.type (.pi k1 k2 k3 k4) hG.wf lP) (.refl _);have e2:=hk.det ⟨_,k3,k4⟩;omega
  |app g a=>
   have h1:thn (frmV (infV f (ctxE G) (enc g)) 3) (fun s=> chkV (infV f (ctxE G) (enc a)) (kd s.kids 0) (some (mkV (sbsT (enc a) (kd s.kids 1) 0 0))))=some (x,0):=h;obtain⟨s,h2,h3⟩:=j15 h1;obtain⟨F,C,R,rfl,tF,rF,lF,vC,vR⟩:=q176 ih hG (y11 hv (by simp)) h2;obtain⟨X,tX,cX,lX,h4⟩:=j35 ih hG (y11 hv (by simp)) (W:=C) h3;obtain⟨v,rfl⟩:=j27 h4;have e:sbsT (enc a) (kd (enc (.pi C R)).kids 1) 0 0=enc (R.inst a):=j38 R a;rw[e] at v⊢;exact⟨_,rfl,.app tF rF tX cX,⟨lF,lX⟩,v⟩
  |elim p z s a=>
   have h1:famV (infV f (ctxE G) (enc p)) (enc .nat) (thn (some (mkV (.mk 5 0 [enc p,.mk 7 0 []]))) fun w=> chkV (infV f (ctxE G) (enc z)) w (thn (some (mkV (stpT (enc p)))) fun w2=> chkV (infV f (ctxE G) (enc s)) w2 (chkV (infV f (ctxE G) (enc a)) (enc .nat) (some (mkV (.mk 5 0 [enc p,enc a]))))))=some (x,0):=h;obtain⟨F,C,D,k,tF,rF,cC,rD,lF,h2⟩:=q179 ih hG (y11 hv (by simp)) h1;obtain⟨h3,h4⟩:=y65 h2;obtain⟨v1,e1⟩:=y86 h3;rw[e1] at h4;obtain⟨Z,tZ,cZ,lZ,h5⟩:=j35 ih hG (y11 hv (by simp)) (W:= .app p .zero) h4;obtain⟨h6,h7⟩:=y65 h5;obtain⟨v2,e2⟩:=y86 h6;rw[e2,y154] at h7;obtain⟨S,tS,cS,lS,h8⟩:=j35 ih hG (y11 hv (by simp)) h7;obtain⟨X,tX,cX,lX,h9⟩:=j35 ih hG (y11 hv (by simp)) h8;obtain⟨v3,rfl⟩:=j27 h9;exact⟨.app p a,rfl,.elim tF rF cC rD tZ cZ tS cS tX cX,⟨lF,lZ,lS,lX⟩,v3⟩
  |id T a b=>
   have h1:thn (frmV (infV f (ctxE G) (enc T)) 2) (fun s=> chkV (infV f (ctxE G) (enc a)) (enc T) (chkV (infV f (ctxE G) (enc b)) (enc T) (some (srtT s.num,0))))=some (x,0):=h;obtain⟨s,h2,h3⟩:=j15 h1;obtain⟨S,i,rfl,tA,rA,lA,bA,hi⟩:=y33 ih hG (y11 hv (by simp)) h2;obtain⟨X,tX,cX,lX,h4⟩:=j35 ih hG (y11 hv (by simp)) h3;obtain⟨Y,tY,cY,lY,h5⟩:=j35 ih hG (y11 hv (by simp)) h4;simp only[Option.some.injEq,Prod.mk.injEq,and_true] at h5;refine⟨.sort i,by rw[<-h5];rfl,.id tA rA tX cX tY cY,⟨lA,lX,lY⟩, ?_⟩;have: ∀m:Fin 4,valid sigT (enc (.sort m.val))=true:=by decide+kernel
   exact this ⟨i,by omega⟩
  |refl a=>
   have h1:thn (infV f (ctxE G) (enc a)) (fun s=> thn (frmV (infV f (ctxE G) s) 2) fun _=> some (mkV (.mk 10 0 [s,enc a,enc a])))=some (x,0):=h;obtain⟨s,h2,h3⟩:=j15 h1;obtain⟨A,rfl,tA,lA,vA⟩:=ih G a s hG (y11 hv (by simp)) h2;obtain⟨s2,h4,h5⟩:=j15 h3;obtain⟨S,i,rfl,tS,rS,lS,bS,hi⟩:=y33 ih hG vA h4;obtain⟨v,rfl⟩:=j27 h5;refine⟨.id A a a,rfl,.refl tA,⟨lA,fun B' k' hB hk=> ?_⟩,v⟩;obtain rfl:=tA.det hB;have:=hk.det ⟨S,tS,rS⟩;omega
  |move p e a=>
   have h1:thn (frmV (infV f (ctxE G) (enc e)) 10) (fun s=> famV (infV f (ctxE G) (enc p)) (kd s.kids 0) (thn (some (mkV (.mk 5 0 [enc p,kd s.kids 1]))) fun w=> chkV (infV f (ctxE G) (enc a)) w (some (mkV (.mk 5 0 [enc p,kd s.kids 2])))))=some (x,0):=h;obtain⟨s,h2,h3⟩:=j15 h1;obtain⟨E,T,b,c,rfl,tE,rE,lE,vT,vb,vc⟩:=snd_id ih hG (y11 hv (by simp)) h2;obtain⟨F,C,D,k,tF,rF,cC,rD,lF,h4⟩:=q179 ih hG (y11 hv (by simp)) (T:=T) h3;obtain⟨h5,h6⟩:=y65 h4;obtain⟨v1,e1⟩:=y86 h5;rw[e1] at h6;obtain⟨X,tX,cX,lX,h7⟩:=j35 ih hG (y11 hv (by simp)) (W:= .app p b) h6;obtain⟨v2,rfl⟩:=j27 h7;exact⟨.app p c,rfl,.move tE rE tF rF cC rD tX cX,⟨lF,lE,lX⟩,v2⟩
  |pair T a b=>
   have h1:thn (frmV (infV f (ctxE G) (enc T)) 2) (fun _=> thn (some (shpV (enc T) 13)) fun s=> chkV (infV f (ctxE G) (enc a)) (kd s.kids 0) (thn (some (mkV (sbsT (enc a) (kd s.kids 1) 0 0))) fun w=> chkV (infV f (ctxE G) (enc b)) w (some (enc T,0))))=some (x,0):=h;obtain⟨s,h2,h3⟩:=j15 h1;obtain⟨S,i,rfl,tA,rA,lA,bA,hi⟩:=y33 ih hG (y11 hv (by simp)) h2;obtain⟨h4,h5⟩:=y65 h3;obtain⟨h6,h7⟩:=j96 h4;generalize (shpV (enc T) 13).1=q at h5 h6 h7;obtain⟨B,rfl,r,-,vB⟩:=j49 h6;obtain⟨C,R,rfl⟩:=kind13 h7;obtain⟨X,tX,cX,lX,h8⟩:=j35 ih hG (y11 hv (by simp)) (W:=C) h5;obtain⟨h9,h10⟩:=y65 h8;obtain⟨v1,e1⟩:=y86 h9;have e:sbsT (enc a) (kd (enc (.sg C R)).kids 1) 0 0=enc (R.inst a):=j38 R a;rw[e1,e] at h10;obtain⟨Y,tY,cY,lY,h11⟩:=j35 ih hG (y11 hv (by simp)) h10;simp only[Option.some.injEq,Prod.mk.injEq,and_true] at h11;exact⟨T,h11.symm,.pair tA rA r tX cX tY cY,⟨lA,lX,lY⟩,y11 hv (by simp)⟩
  |fst a=>
   have h1:thn (frmV (infV f (ctxE G) (enc a)) 13) (fun s=> some (kd s.kids 0,0))=some (x,0):=h;obtain⟨s,h2,h3⟩:=j15 h1;obtain⟨F,C,R,rfl,tF,rF,lF,vC,vR⟩:=snd_sg ih hG (y11 hv (by simp)) h2;simp only[Option.some.injEq,Prod.mk.injEq,and_true] at h3;exact⟨C,h3.symm,.fst tF rF,lF,vC⟩
  |snd a=>
   have h1:thn (frmV (infV f (ctxE G) (enc a)) 13) (fun s=> some (mkV (sbsT (.mk 15 0 [enc a]) (kd s.kids 1) 0 0)))=some (x,0):=h;obtain⟨s,h2,h3⟩:=j15 h1;obtain⟨F,C,R,rfl,tF,rF,lF,vC,vR⟩:=snd_sg ih hG (y11 hv (by simp)) h2;obtain⟨v,rfl⟩:=j27 h3;have e:sbsT (.mk 15 0 [enc a]) (kd (enc (.sg C R)).kids 1) 0 0=enc (R.inst (.fst a)):=j38 R (.fst a);rw[e] at v⊢;exact⟨_,rfl,.snd tF rF,lF,v⟩
end Go.Proofs.YtdkamgafpphdjaaGreat
namespace Go.Proofs.YtdkamgafpphdjaaGreat
open Go.RowKit
set_option linter.unusedVariables false
attribute [local go_sem ↓] Go.wp_at_zero Go.wp_at_succ
def DefsQ(w:World)(e:Ending)(w':World):Prop:= ∃A n cap ks t u,e= .returned (.tuple #[.slice A n cap,u])/\n<=cap/\cap<=maxLen/\(A=none->cap=0)/\ks.length=n*2/\n<=9/\(∀x∈ks,cnt x<=401)/\cnt t<=401/\j18 w.heap.size w' A ks/\From w.heap.size w' t u/\Ext w w'
theorem y79(w:World)(A:Option Addr)(cap:Nat)(bs:List Int)(hl:bs.length<=cap)(hc:cap<=maxLen)(hB:q51 w w.heap.size A bs):Calls Tryz.prog 24 #[.slice A bs.length cap] w (DefsQ w):=by
 have hx0:=(xr w).alloc (.cells #[.int .i64 0,.int .i64 0,.slice none 0 0] 25);have hb0:=heap_alloc_new w (.cells #[.int .i64 0,.int .i64 0,.slice none 0 0] 25);go_enter Tryz.func24,Tryz.ntmps24;go_wp2_with fail;refine(q142 _ A cap bs hl hc ((hB.ext hx0).mono hx0.size)).mono ?_;rintro e w1 ⟨rfl,hR,h1⟩;generalize hg:(w.alloc (.cells #[.int .i64 0,.int .i64 0,.slice none 0 0] 25)).heap.size=g at hR⊢;have hg':w.heap.size < g:=by rw[<-hg];simp
 have hb1:=h1.blk hb0;have hg1:=hR.lt;clear hg hb0;go_wp2_with fail;refine(y165 _ _ 0 hR (by omega)).mono ?_;rintro e w2 ⟨A2,n2,c2,ks,t,u,rfl,p1,p2,hn,hn8,hv,hvt,hK,hF,hR2,ho⟩;obtain⟨b1,b2,b3,b4,b5,rfl⟩:=hF.three;have hct:=(j11 hvt).2;have hs2:w.heap.size < w2.heap.size:=by have:=q10 (ho.keepBlk hb1 (by simp;omega));omega
 have hs12:=ho.size;have hx4:=(xr w2).alloc (.cells #[.int .i64 b1,.int .i64 b2,.slice b3 b4 b5] 25);have hb4:=heap_alloc_new w2 (.cells #[.int .i64 b1,.int .i64 b2,.slice b3 b4 b5] 25);have hb14:=hx4.blk (ho.keepBlk hb1 (by simp;omega));have hO:=ho.trans (oE (L:= [g]) hx4);have hF4:=hF.ext hx4;have hK4:j18 w1.heap.size _ A2 ks:=InK.mono (fun b hb=>⟨hb.1,Nat.lt_of_lt_of_le hb.2 hx4.size⟩) (fun b hb=> hx4.heap b hb.2) hK;have hR4:=hR2.ext hx4;go_wp2_with fail;generalize hw4:w2.alloc _=w4 at hx4 hb4 hb14 hO hF4 hR4 hK4⊢;clear hw4;have lz:=q10 hb4;have HS:=hdq (show∀w',Only [g] w4 w'->w'.cell? ⟨w2.heap.size,0,none⟩=some (.int .i64 b1)/\w'.cell? ⟨w2.heap.size,1,none⟩=some (.int .i64 b2)/\w'.cell? ⟨w2.heap.size,2,none⟩=some (.slice b3 b4 b5) from fun w' hw=> by
  obtain⟨y0,y1,y2,-,-,-⟩:=own3 (hw.keepBlk hb4 (by simp;omega));exact⟨y0,y1,y2⟩)
 have HBR:=hdq (show∀w',Only [g] w4 w'->w'.heap[w.heap.size]? =some (.cells #[.int .i64 0,.int .i64 0,.slice none 0 0] 25 (0,0)) from fun w' hw=> hw.keepBlk hb14 (by simp;omega));have HHS:=hdq (show∀w',Only [g] w4 w'-> ∀v0 v1 v2,(((w'.setCell ⟨w.heap.size,0,none⟩ v0).setCell ⟨w.heap.size,1,none⟩ v1).setCell ⟨w.heap.size,2,none⟩ v2).cell? ⟨w2.heap.size,0,none⟩=some (.int .i64 b1)/\(((w'.setCell ⟨w.heap.size,0,none⟩ v0).setCell ⟨w.heap.size,1,none⟩ v1).setCell ⟨w.heap.size,2,none⟩ v2).cell? ⟨w2.heap.size,1,none⟩=some (.int .i64 b2)/\(((w'.setCell ⟨w.heap.size,0,none⟩ v0).setCell ⟨w.heap.size,1,none⟩ v1).setCell ⟨w.heap.size,2,none⟩ v2).cell? ⟨w2.heap.size,2,none⟩=some (.slice b3 b4 b5) from fun w' hw v0 v1 v2=> by
  obtain⟨y0,y1,y2,-,-,-⟩:=own3 (j12 (j12 (j12 (hw.keepBlk hb4 (by simp;omega)) (p:=⟨w.heap.size,0,none⟩) (by show w2.heap.size≠w.heap.size;omega) v0) (p:=⟨w.heap.size,1,none⟩) (by show w2.heap.size≠w.heap.size;omega) v1) (p:=⟨w.heap.size,2,none⟩) (by show w2.heap.size≠w.heap.size;omega) v2);exact⟨y0,y1,y2⟩)
 have hwS:w.heap.size < w4.heap.size:=q10 hb14;have HO4:=hdq hO;have hD:Only [g] w4 w4.drew:=oE (xr w4).drew;have hKL0:y16 w4 A2 ks:=InK.mono (fun b hb=> hb.2) (fun _ _=> rfl) hK4;have hKL:=hKL0.drew;have hgx: ∀b,b∈ [g]->b < w1.heap.size:=by intro b hb;rw[List.mem_singleton.1 hb];exact hg1
 clear hb1 hb14 hb4 hO hx4 hK hF hR2
 go_region_held3 (fun w'=> w'.cell? ⟨w2.heap.size,0,none⟩=some (.int .i64 b1)/\w'.cell? ⟨w2.heap.size,1,none⟩=some (.int .i64 b2)/\w'.cell? ⟨w2.heap.size,2,none⟩=some (.slice b3 b4 b5))
  (first|exact HHS.out _ ((hD.trans ho5).trans ho6) _ _ _|exact HS.out _ ((hD.trans ho5).trans ho6) |exact HS.out _ (hD.trans ho5) |exact HS.out _ hD)
  (first
   |(go_at_call 75;refine(q131 ks n2 c2 _ g _ A2 hKL hn p1 p2 hv hn8 (hR4.ext (xr w4).drew) (by omega)).mono ?_;rintro e w5 ⟨A5,n5,c5,ks5,rfl,r1,r2,rz,r3,r4,r5,hK5,hR5,ho5⟩)
   |(go_at_call 76;refine(y87 t _ g _ _ (hF4.only (hD.trans ho5) hgx).lies (by omega) hR5 (by omega)).mono ?_;rintro e w6 ⟨t6,u6,rfl,hct6,hF6,hR6,ho6⟩;obtain⟨d1,d2,d3,d4,d5,rfl⟩:=hF6.three;obtain⟨q0,q1,q2,f0,f1,f2⟩:=own3 (HBR.out _ ((hD.trans ho5).trans ho6))))
 have hE:=(HO4.out.trans ((hD.trans ho5).trans ho6)).ext (hx0.trans h1) (by intro b hb;simp at hb;omega);have hs5:w4.heap.size<=w5.heap.size:=(hD.trans ho5).size;have hs6:w5.heap.size<=w6.heap.size:=ho6.size;have hK6:j18 w4.heap.size w6 A5 ks5:=InK.mono (fun b hb=>⟨hb.1,by have:=hb.2;omega⟩) (fun b hb=> ho6.block b hb.2 (by have h9:w4.heap.size<=b:=hb.1;simp;omega)) hK5;go_wp2_with fail;refine bodyPost_ret (v:= .tuple #[.slice A5 n5 c5,.agg #[.int .i64 d1,.int .i64 d2,.slice d3 d4 d5]]) (by simp[results,Tryz.results24,go_sem,q0,q1,q2]) rfl ⟨_,_,_,ks5,t6,_,rfl,r1,r2,rz,r3,r4,r5,by omega, ?_, ?_, ?_⟩
 · refine InK.mono (fun b hb=>⟨by have h9:w4.heap.size<=b:=hb.1;omega,by simpa using hb.2⟩) (fun b hb=> ?_) hK6
   have hb1:w4.heap.size<=b:=hb.1;rw[Below.heap_setCell _ _ _ _ (by show b≠w.heap.size;omega),Below.heap_setCell _ _ _ _ (by show b≠w.heap.size;omega),Below.heap_setCell _ _ _ _ (by show b≠w.heap.size;omega)]
 · exact(((hF6.set (by show w.heap.size < w5.heap.size;omega) _).set (by show w.heap.size < w5.heap.size;omega) _).set (by show w.heap.size < w5.heap.size;omega) _).since (by omega)
 · exact((hE.setCell (by simp) _).setCell (by simp) _).setCell (by simp) _
end Go.Proofs.YtdkamgafpphdjaaGreat
namespace Go.Proofs.YtdkamgafpphdjaaGreat
open Go.RowKit
set_option linter.unusedVariables false
theorem q170{x:Tr}(h:outT x=none)(f:Nat):nrmC f x=(x,0):=by
 cases f <;>(unfold nrmC;rw[h])
theorem j185{x:Tr}{p:List Int}(h:outT x=some p):nrmC 0 x=(y13,1):=by
 unfold nrmC;rw[h]
theorem nrmC_no{x:Tr}{p:List Int}(h:outT x=some p)(hv:valid sigT (conA x p)=false)(f:Nat):nrmC (f+1) x=(y13,2):=by
 rw[nrmC,h];simp only;rw[if_neg (by rw[hv];decide)]
theorem nrmC_go{x:Tr}{p:List Int}(h:outT x=some p)(hv:valid sigT (conA x p)=true)(f:Nat):nrmC (f+1) x=nrmC f (conA x p):=by
 rw[nrmC,h];simp only;rw[if_pos hv]
theorem j156(t:Tr)(f:Int)(w:World)(v:Value)(hin:Lies w t v):
 Calls Tryz.prog 130 #[v,.int .i64 f,.func (.func 131) #[] #[]] w fun e w'=> ∃r s,e= .returned (.tuple #[r,.int .i64 s,.int .i64 (q133 t f).2])/\Made w w' 25 (q133 t f).1 r/\Ext w w':=by
 have HV:=hdq (fun W (hW:Ext w W)=> q17 t W v (hin.ext hW));have E:q133 t f=if(valid sigT t && inR f 0 200)=true then nrmC f.toNat t else(y13,3):=rfl
 rw[E];clear E;obtain⟨z,hz⟩: ∃z,valid sigT t=z:=⟨_,rfl⟩;obtain⟨y,hy⟩: ∃y,inR f 0 200=y:=⟨_,rfl⟩;rw[hz] at HV⊢;rw[hy];obtain⟨k,n,ks⟩:=t;obtain⟨A,cap,rfl,hl,hc,hK⟩:=Lies.mk_iff.1 hin;have hx0:=((xr w).alloc (.cells #[.int .i64 k,.int .i64 n,.slice A ks.length cap] 25)).alloc (.cells #[.int .i64 0,.int .i64 0,.slice none 0 0] 25);obtain⟨hb0,hb1,hs2⟩:=blk2 (xr ((w.alloc (.cells #[.int .i64 k,.int .i64 n,.slice A ks.length cap] 25)).alloc (.cells #[.int .i64 0,.int .i64 0,.slice none 0 0] 25)));obtain⟨wS,hwS⟩: ∃x,x=(w.alloc (.cells #[.int .i64 k,.int .i64 n,.slice A ks.length cap] 25)).alloc (.cells #[.int .i64 0,.int .i64 0,.slice none 0 0] 25):=⟨_,rfl⟩;rw[<-hwS] at hx0 hb0 hb1 hs2;cases z with
 |false=>
  rw[if_neg (by simp)];go_enter Tryz.func130,Tryz.ntmps130;go_wp2_with fail;rw[<-hwS];clear hwS;refine(HV.out _ hx0).mono ?_;rintro e w1 ⟨rfl,h1⟩;obtain⟨s0,s1,s2,f0,f1,f2⟩:=own3 (h1.blk hb1);go_wp2_with fail;refine bodyPost_ret (v:= .tuple #[.agg #[.int .i64 0,.int .i64 0,.slice none 0 0],.int .i64 0,.int .i64 3]) (by simp[results,Tryz.results130,go_sem,s0,s1,s2]) rfl ⟨_,_,rfl,Made.leaf _ _ _ 0 0, ?_⟩;exact((((hx0.trans h1).setCell (by simp) _).setCell (by simp) _).setCell (by simp) _)
 |true=>
  cases y with
  |false=>
   rw[if_neg (by simp)];go_enter Tryz.func130,Tryz.ntmps130;go_wp2_with fail;rw[<-hwS];clear hwS;refine(HV.out _ hx0).mono ?_;rintro e w1 ⟨rfl,h1⟩;obtain⟨s0,s1,s2,f0,f1,f2⟩:=own3 (h1.blk hb1);go_wp2_with (go_at_call 67;refine(q22 _ _ _ _).mono ?_;rw[hy];rintro e w3 ⟨rfl,rfl⟩)
   refine bodyPost_ret (v:= .tuple #[.agg #[.int .i64 0,.int .i64 0,.slice none 0 0],.int .i64 0,.int .i64 3]) (by simp[results,Tryz.results130,go_sem,s0,s1,s2]) rfl ⟨_,_,rfl,Made.leaf _ _ _ 0 0, ?_⟩;exact((((hx0.trans h1).setCell (by simp) _).setCell (by simp) _).setCell (by simp) _)
  |true=>
   rw[if_pos (by simp)];obtain⟨hf1,hf2⟩:=q33.1 hy;obtain⟨F,rfl⟩:=Int.eq_ofNat_of_zero_le hf1;rw[show((F:Int)).toNat=F from by omega];obtain⟨R,hR⟩: ∃R,nrmC F (.mk k n ks)=R:=⟨_,rfl⟩;rw[hR];have HR:=hdq hR;have HY:=hdq hy;have HZ:=hdq hz;have HF:=hdq hf2;clear hy hR hz hf1 hf2;go_enter Tryz.func130,Tryz.ntmps130;go_wp2_with fail;rw[<-hwS];clear hwS;refine(HV.out _ hx0).mono ?_;rintro e w1 ⟨rfl,h1⟩;have hb10:=h1.blk hb0;have hb11:=h1.blk hb1;have hx1:=hx0.trans h1;go_wp2_with (go_at_call 67;refine(q22 _ _ _ _).mono ?_;rw[HY.out];rintro e w3 ⟨rfl,rfl⟩)
   clear HV hx0 hb0 hb1 hs2 h1 hin HY
   go_loopw [9] (fun i wr=> ∃(j:Nat) (k' n':Int) (kids:List Tr) (A':Option Addr) (c':Nat),j<=F/\i= .int .i64 j/\
    Hid (nrmC (F - j) (.mk k' n' kids)=R)/\Hid (valid sigT (.mk k' n' kids)=true)/\kids.length<=c'/\c'<=maxLen/\InK wr (fun b=> b < wr.heap.size/\(b < w.heap.size\/w.heap.size+2<=b)) A' kids/\
    wr.heap[w.heap.size]? =some (.cells #[.int .i64 k',.int .i64 n',.slice A' kids.length c'] 25 (0,0))/\wr.heap[w.heap.size+1]? =some (.cells #[.int .i64 0,.int .i64 0,.slice none 0 0] 25 (0,0))/\Ext w wr) (fun i _=> F -(intOf i).toNat)
   case atStart=> exact⟨0,k,n,ks,A,cap,Nat.zero_le _,rfl,hdq HR.out,HZ,hl,hc,InK.mono (fun b hb=>⟨Nat.lt_of_lt_of_le hb hx1.size,.inl hb⟩) (fun b hb=> hx1.heap b hb) hK,hb10,hb11,hx1⟩
   case round=>
    obtain⟨j,k',n',kids,A',c',hj,rfl,HN,HVX,hkl,hkc,hT,hb,hbR,hx⟩:=hrel;have hsz:w.heap.size+1 < wr.heap.size:=q10 hbR;have hL:Lies wr (.mk k' n' kids) (.agg #[.int .i64 k',.int .i64 n',.slice A' kids.length c']):=Lies.mk hkl hkc (InK.mono (fun b hb=> hb.1) (fun _ _=> rfl) hT);have HO:=q197 (.mk k' n' kids) wr _ 30 (q21 HVX.out).2 hL (by decide);have HOW:=hdq (fun W (hW:Ext wr W)=> q35 (.mk k' n' kids) W _ (hL.ext hW) (by have:=(q21 HVX.out).1;omega));have HCO:=hdq (fun p (hp:outT (.mk k' n' kids)=some p) W (hW:Ext wr W) B c (hP:PFs W B p.length c p)=> q64 (.mk k' n' kids) p HVX.out (j138 _ p hp) W _ (hL.ext hW) B p.length c hP (by have:=y111 _ 30 (q21 HVX.out).2 p hp;omega));rw[show outP (.mk k' n' kids)=(outT (.mk k' n' kids)).getD [] from rfl] at HO;have HO2:=hdq HO;clear HO hT hK hb10 hb11 hx1;obtain⟨z0,z1,z2,-,-,-⟩:=own3 hb;obtain⟨q,hq⟩: ∃q,outT (.mk k' n' kids)=q:=⟨_,rfl⟩;rw[hq] at HO2;cases q with
    |none=>
     have HE:=hdq (HN.out.symm.trans (q170 hq (F - j)));clear HCO hq HN;go_wp2_with fail;refine HO2.out.mono ?_;rintro e w2 ⟨x,rfl,-,h2⟩;obtain⟨y0,y1,y2,-,-,-⟩:=own3 (h2.blk hb);clear z0 z1 z2;go_wp2_with fail;refine(HOW.out _ h2).mono ?_;rintro e w3 ⟨r,rfl,hM,h3⟩;obtain⟨b1,b2,b3,b4,b5,rfl⟩:=hM.three';have h16:=h2.trans h3;obtain⟨s0,s1,s2,f0,f1,f2⟩:=own3 (h16.blk hbR);have hw4:w.heap.size+2<=w2.heap.size:=by have:=h2.size;omega
     clear y0 y1 y2;go_wp2_with fail;rw[HE.out];refine bodyPost_ret (v:= .tuple #[.agg #[.int .i64 b1,.int .i64 b2,.slice b3 b4 b5],.int .i64 j,.int .i64 0]) (by simp[results,Tryz.results130,go_sem,s0,s1,s2]) rfl ⟨_,_,rfl,Made.since (hM.after ((((q23.refl _ _).setCell (p:=⟨w.heap.size+1,0,none⟩) (by show w.heap.size+1 < _;omega) (.int .i64 b1)).setCell (p:=⟨w.heap.size+1,1,none⟩) (by show w.heap.size+1 < _;omega) (.int .i64 b2)).setCell (p:=⟨w.heap.size+1,2,none⟩) (by show w.heap.size+1 < _;omega) (.slice b3 b4 b5))) (by omega), ?_⟩;exact((((hx.trans h16).setCell (by simp) _).setCell (by simp) _).setCell (by simp) _)
    |some p=>
     have HCO2:=hdq (HCO.out p hq);simp only[Option.isSome_some,Option.getD_some] at HO2;have HQ:=hdq hq;clear HCO hq HOW;by_cases hjF:j=F
     · have HE:=hdq (HN.out.symm.trans (show nrmC (F - j) (.mk k' n' kids)=(y13,1) by rw[show F - j=0 by omega];exact j185 HQ.out))
       clear HCO2 HN;subst hjF;go_wp2_with fail;refine HO2.out.mono ?_;rintro e w2 ⟨x,rfl,hRw,h2⟩;obtain⟨B,c,rfl,hP⟩:=y85 hRw;obtain⟨s0,s1,s2,f0,f1,f2⟩:=own3 (h2.blk hbR);clear z0 z1 z2 hRw;go_wp2_with fail;rw[HE.out];refine bodyPost_ret (v:= .tuple #[.agg #[.int .i64 0,.int .i64 0,.slice none 0 0],.int .i64 j,.int .i64 1]) (by simp[results,Tryz.results130,go_sem,s0,s1,s2]) rfl ⟨_,_,rfl,Made.leaf _ _ _ 0 0, ?_⟩;exact((((hx.trans h2).setCell (by simp) _).setCell (by simp) _).setCell (by simp) _)
     · have hj1:((j:Int)==(F:Int))=false:=beq_eq_false_iff_ne.2 (by omega)
       have hj2:(j==F)=false:=beq_eq_false_iff_ne.2 hjF;have hlt:j < F:=by omega
       have hj3:(j:Int) < 200:=by have:=HF.out;omega
       have hj4:F<=200:=by have:=HF.out;omega
       obtain⟨g,hg⟩: ∃g,F - j=g+1:=⟨F - j - 1,by omega⟩;have hg2:F -(j+1)=g:=by omega
       have hcv:conV (.mk k' n' kids) p=if valid sigT (conA (.mk k' n' kids) p)=true then(conA (.mk k' n' kids) p,true) else(y13,false):=rfl
       have HN1:=HN.out;rw[hg] at HN1;by_cases hcx:valid sigT (conA (.mk k' n' kids) p)=true
       · rw[if_pos hcx] at hcv
         rw[nrmC_go HQ.out hcx,<-hg2] at HN1;rw[hcv] at HCO2;clear hcv HN hg hg2;generalize conA (.mk k' n' kids) p=X at HCO2 HN1 hcx;obtain⟨k2,n2,kids2⟩:=X;have HX1:=hdq HN1;have HX2:=hdq hcx;clear HN1 hcx;go_wp2_with fail;refine HO2.out.mono ?_;rintro e w2 ⟨x,rfl,hRw,h2⟩;obtain⟨B,c,rfl,hP⟩:=y85 hRw;obtain⟨y0,y1,y2,-,-,-⟩:=own3 (h2.blk hb);clear z0 z1 z2 hRw;go_wp2_with fail;refine(HCO2.out _ h2 _ _ hP).mono ?_;rintro e w3 ⟨r,rfl,hM,h3⟩;have hF3:=From.made hM;obtain⟨A2,c2,rfl,hl2,hc2,hK2⟩:=InT.mk_iff.1 hF3;have h16:=(h2.trans h3).trans ((xr w3).alloc (.cells #[.int .i64 k2,.int .i64 n2,.slice A2 kids2.length c2] 25));obtain⟨s0,s1,s2,f0,f1,f2⟩:=own3 (h16.blk hb);have hb7:=h16.blk hb;have hb8:=h16.blk hbR;have hs23:wr.heap.size<=w2.heap.size:=h2.size;have hs33:w2.heap.size<=w3.heap.size:=h3.size;have KEEP:=hdq (fun(a0 a1 a2:Value) (b:Nat) (hb:b < w3.heap.size) (hne:b≠w.heap.size)=>(show((((w3.alloc (.cells #[.int .i64 k2,.int .i64 n2,.slice A2 kids2.length c2] 25)).setCell ⟨w.heap.size,0,none⟩ a0).setCell ⟨w.heap.size,1,none⟩ a1).setCell ⟨w.heap.size,2,none⟩ a2).heap[b]? =w3.heap[b]?from by
          rw[Below.heap_setCell _ _ _ _ hne,Below.heap_setCell _ _ _ _ hne,Below.heap_setCell _ _ _ _ hne];exact((xr w3).alloc _).heap b hb))
         clear y0 y1 y2 hb hbR hM hF3;go_wp2_with fail
         go_roundw
         case rel=> exact⟨j+1,k2,n2,kids2,A2,c2,hlt,by go_num,HX1,HX2,hl2,hc2,InK.mono (fun b hb=>⟨by simp;omega,.inr (by omega)⟩) (fun b hb=> KEEP.out _ _ _ b hb.2 (by omega)) hK2,q11 (q11 (q11 hb7 0 _) 1 _) 2 _,j12 (j12 (j12 hb8 (by simp) _) (by simp) _) (by simp) _,(((hx.trans h16).setCell (by simp) _).setCell (by simp) _).setCell (by simp) _⟩
         case measure=> simp[intOf];omega
       · rw[if_neg hcx] at hcv
         rw[nrmC_no HQ.out (Bool.eq_false_iff.2 hcx)] at HN1;rw[hcv] at HCO2;have HE:=hdq HN1.symm;clear hcv HN hg hg2 hcx HN1;go_wp2_with fail;refine HO2.out.mono ?_;rintro e w2 ⟨x,rfl,hRw,h2⟩;obtain⟨B,c,rfl,hP⟩:=y85 hRw;obtain⟨y0,y1,y2,-,-,-⟩:=own3 (h2.blk hb);clear z0 z1 z2 hRw;go_wp2_with fail;refine(HCO2.out _ h2 _ _ hP).mono ?_;rintro e w3 ⟨r,rfl,hM,h3⟩;obtain⟨b1,b2,b3,b4,b5,rfl⟩:=hM.three';have h16:=(h2.trans h3).trans ((xr w3).alloc (.cells #[.int .i64 b1,.int .i64 b2,.slice b3 b4 b5] 25));obtain⟨s0,s1,s2,f0,f1,f2⟩:=own3 (h16.blk hbR);clear y0 y1 y2;go_wp2_with fail;rw[HE.out];refine bodyPost_ret (v:= .tuple #[.agg #[.int .i64 0,.int .i64 0,.slice none 0 0],.int .i64 j,.int .i64 2]) (by simp[results,Tryz.results130,go_sem,s0,s1,s2]) rfl ⟨_,_,rfl,Made.leaf _ _ _ 0 0, ?_⟩;exact((((hx.trans h16).setCell (by simp) _).setCell (by simp) _).setCell (by simp) _)
theorem q72(t:Tr)(f:Int)(w:World)(v:Value)(hin:Lies w t v):
 Calls Tryz.prog 68 #[v,.int .i64 f] w fun e w'=> ∃r,e= .returned (.tuple #[r,.int .i64 (q133 t f).2])/\Made w w' 25 (q133 t f).1 r/\Ext w w':=by
 have HS:=hdq (fun W (hW:Ext w W)=> j156 t f W v (hin.ext hW));obtain⟨S,hS⟩: ∃S,q133 t f=S:=⟨_,rfl⟩;rw[hS] at HS⊢;obtain⟨k,n,ks⟩:=t;obtain⟨A,cap,rfl,hl,hc,hK⟩:=Lies.mk_iff.1 hin;clear hS;have hx0:=((xr w).alloc (.cells #[.int .i64 k,.int .i64 n,.slice A ks.length cap] 25)).alloc (.cells #[.int .i64 0,.int .i64 0,.slice none 0 0] 25);obtain⟨hb0,hb1,hs2⟩:=blk2 (xr ((w.alloc (.cells #[.int .i64 k,.int .i64 n,.slice A ks.length cap] 25)).alloc (.cells #[.int .i64 0,.int .i64 0,.slice none 0 0] 25)));obtain⟨wS,hwS⟩: ∃x,x=(w.alloc (.cells #[.int .i64 k,.int .i64 n,.slice A ks.length cap] 25)).alloc (.cells #[.int .i64 0,.int .i64 0,.slice none 0 0] 25):=⟨_,rfl⟩;rw[<-hwS] at hx0 hb0 hb1 hs2;go_enter Tryz.func68,Tryz.ntmps68;go_wp2_with fail;rw[<-hwS];clear hwS;refine(HS.out _ hx0).mono ?_;rintro e w3 ⟨r,s,rfl,hM,h3⟩;obtain⟨b1,b2,b3,b4,b5,rfl⟩:=hM.three';have h16:=h3.trans ((xr w3).alloc (.cells #[.int .i64 b1,.int .i64 b2,.slice b3 b4 b5] 25));obtain⟨s0,s1,s2,f0,f1,f2⟩:=own3 (h16.blk hb1);have hM2:=hM.ext ((xr w3).alloc (.cells #[.int .i64 b1,.int .i64 b2,.slice b3 b4 b5] 25));have hw4:w.heap.size+2<=wS.heap.size:=by omega
 go_wp2_with fail;refine bodyPost_ret (v:= .tuple #[.agg #[.int .i64 b1,.int .i64 b2,.slice b3 b4 b5],.int .i64 S.2]) (by simp[results,Tryz.results68,go_sem,s0,s1,s2]) rfl ⟨_,rfl,Made.since (hM2.after ((((q23.refl _ _).setCell (p:=⟨w.heap.size+1,0,none⟩) (by show w.heap.size+1 < _;omega) (.int .i64 b1)).setCell (p:=⟨w.heap.size+1,1,none⟩) (by show w.heap.size+1 < _;omega) (.int .i64 b2)).setCell (p:=⟨w.heap.size+1,2,none⟩) (by show w.heap.size+1 < _;omega) (.slice b3 b4 b5))) (by omega), ?_⟩;exact((((hx0.trans h16).setCell (by simp) _).setCell (by simp) _).setCell (by simp) _)
end Go.Proofs.YtdkamgafpphdjaaGreat

/-
  Lemmas towards the law, 29: MInf, FunTm, Norm.
-/
import Derived.Test.YtbnkbepgmenblaaGreatDoorFBB
import Derived.Lib.ReplaceLaws
set_option linter.unusedVariables false
set_option maxHeartbeats 4000000
set_option maxRecDepth 100000
namespace Go.Proofs.YtbnkbepgmenblaaGreatDoor
open Go.RowKit
open M (Hd HR Cv Ty Lim WfL TyB Lev)
def ctxE(G:List M.Tm):List Tr:=(G.map enc).reverse
theorem q63(G:List M.Tm):(ctxE G).length=G.length:=by simp[ctxE]
theorem q54(A:M.Tm)(G:List M.Tm):ctxE (A::G)=ctxE G++ [enc A]:=by simp[ctxE]
theorem y208{G:List M.Tm}{n:Nat}(h:n < G.length):kd (ctxE G) (G.length - 1 - n)=enc G[n]:=by
 unfold kd ctxE;rw[List.getD_eq_getElem?_getD,List.getElem?_reverse (by simp;omega)];simp only[List.length_map,List.getElem?_map];rw[show G.length - 1 -(G.length - 1 - n)=n by omega,List.getElem?_eq_getElem h]
 rfl
theorem q216(p:M.Tm):stpT (enc p)=enc (M.stepTy p):=by
 have h1:=j112 1 p 0;have h2:=j112 2 p 0;rw[q113] at h1 h2;unfold stpT M.stepTy;simp only[enc,natT,varT];rw[show shfT 1 (enc p) 0=enc (p.ren fun i=> i+1) from h1,show shfT 2 (enc p) 0=enc (p.ren fun i=> i+2) from h2]
 rfl
theorem lkV_enc{G:List M.Tm}{n:Nat}(h:n < G.length):lkV (ctxE G) (n:Int)=mkV (enc (G[n].ren fun i=> i+(n+1))):=by
 unfold lkV;rw[if_neg (by rw[q63];omega),q63,show(n:Int).toNat=n by omega,y208 h];have:=j112 (n+1) G[n] 0;rw[q113] at this;rw[<-this]
 rfl
theorem lk_get{G:List M.Tm}{n:Nat}(h:n < G.length):M.lk G n=some (G[n].ren fun i=> i+(n+1)):=by
 unfold M.lk;rw[List.getElem?_eq_getElem h]
 rfl
section
variable (f : Nat) (G : List Tr)
theorem q217{k:Int}{ks:List Tr}{i:Nat}(h:und k i=0):tyV (infV f) G k ks i=infV f G (kd ks i):=by unfold tyV;rw[if_pos h]
theorem j111{k:Int}{ks:List Tr}(h:und k 1=1):tyV (infV f) G k ks 1=if 20<=G.length then some (y14,2) else infV f (G++ [kd ks 0]) (kd ks 1):=by unfold tyV;rw[if_neg (by rw[h];decide)]
end
theorem pty{f:Nat}{G:List Tr}{k:Int}{ks:List Tr}{i:Nat}{r:Tr×Int}(h:und k i=0)(e:tyV (infV f) G k ks i=some r):infV f G (kd ks i)=some r:=by rwa [q217 f G h] at e
theorem uty{f:Nat}{G:List Tr}{k:Int}{ks:List Tr}{s:Tr}(h:und k 1=1)(e:tyV (infV f) G k ks 1=some (s,0)):G.length < 20/\infV f (G++ [kd ks 0]) (kd ks 1)=some (s,0):=by
 rw[j111 f G h] at e
 split at e
 · simp at e
 · exact⟨by omega,e⟩
theorem j12{k n:Int}{ks:List Tr}{x:Tr}(h:valid sigT (.mk k n ks)=true)(hm:x∈ks):valid sigT x=true:=j55 h hm
structure y48 (G:List M.Tm):Prop where
 wf:WfL G
 vd: ∀A∈G,valid sigT (enc A)=true
theorem y48.nil:y48 []:=⟨WfL.nil,fun _ h=> by simp at h⟩
theorem y48.cons{G:List M.Tm}{A:M.Tm}(h:y48 G)(b:TyB G A)(v:valid sigT (enc A)=true):y48 (A::G):=
 ⟨h.wf.cons b,fun B hB=> by
  rcases List.mem_cons.1 hB with rfl|hB
  · exact v
  · exact h.vd B hB⟩
def Snd(f:Nat):Prop:= ∀(G:List M.Tm) (t:M.Tm) (x:Tr),y48 G->valid sigT (enc t)=true->infV f (ctxE G) (enc t)=some (x,0)-> ∃A,x=enc A/\Ty G t A/\Lim G t/\valid sigT (enc A)=true
theorem y39{f:Nat}(ih:Snd f){G:List M.Tm}{A:M.Tm}{s:Tr}(hG:y48 G)(hv:valid sigT (enc A)=true)(h:frmV (infV f (ctxE G) (enc A)) 2=some (s,0)): ∃S i,s=enc (.sort i)/\Ty G A S/\HR S (.sort i)/\Lim G A/\TyB G A/\i<=3:=by
 obtain⟨u,h1,h2,h3⟩:=y47 h;obtain⟨S,rfl,tA,lA,vS⟩:=ih G A u hG hv h1;obtain⟨B,rfl,r,-,-⟩:=j52 h2;obtain⟨i,rfl⟩:=kind2 h3;have hi:=M.lev_le (Lim.type tA hG.wf lA) r;exact⟨S,i,rfl,tA,r,lA,⟨lA,i,hi,S,tA,r⟩,hi⟩
theorem snd_pi{f:Nat}(ih:Snd f){G:List M.Tm}{t:M.Tm}{s:Tr}(hG:y48 G)(hv:valid sigT (enc t)=true)(h:frmV (infV f (ctxE G) (enc t)) 3=some (s,0)): ∃F C R,s=enc (.pi C R)/\Ty G t F/\HR F (.pi C R)/\Lim G t/\valid sigT (enc C)=true/\valid sigT (enc R)=true:=by
 obtain⟨u,h1,h2,h3⟩:=y47 h;obtain⟨F,rfl,tA,lA,vS⟩:=ih G t u hG hv h1;obtain⟨B,rfl,r,-,vB⟩:=j52 h2;obtain⟨C,R,rfl⟩:=kind3 h3;exact⟨F,C,R,rfl,tA,r,lA,j12 vB (by simp),j12 vB (by simp)⟩
theorem snd_sg{f:Nat}(ih:Snd f){G:List M.Tm}{t:M.Tm}{s:Tr}(hG:y48 G)(hv:valid sigT (enc t)=true)(h:frmV (infV f (ctxE G) (enc t)) 13=some (s,0)): ∃F C R,s=enc (.sg C R)/\Ty G t F/\HR F (.sg C R)/\Lim G t/\valid sigT (enc C)=true/\valid sigT (enc R)=true:=by
 obtain⟨u,h1,h2,h3⟩:=y47 h;obtain⟨F,rfl,tA,lA,vS⟩:=ih G t u hG hv h1;obtain⟨B,rfl,r,-,vB⟩:=j52 h2;obtain⟨C,R,rfl⟩:=kind13 h3;exact⟨F,C,R,rfl,tA,r,lA,j12 vB (by simp),j12 vB (by simp)⟩
theorem snd_id{f:Nat}(ih:Snd f){G:List M.Tm}{t:M.Tm}{s:Tr}(hG:y48 G)(hv:valid sigT (enc t)=true)(h:frmV (infV f (ctxE G) (enc t)) 10=some (s,0)): ∃F T a b,s=enc (.id T a b)/\Ty G t F/\HR F (.id T a b)/\Lim G t/\valid sigT (enc T)=true/\valid sigT (enc a)=true/\valid sigT (enc b)=true:=by
 obtain⟨u,h1,h2,h3⟩:=y47 h;obtain⟨F,rfl,tA,lA,vS⟩:=ih G t u hG hv h1;obtain⟨B,rfl,r,-,vB⟩:=j52 h2;obtain⟨T,a,b,rfl⟩:=kind10 h3;exact⟨F,T,a,b,rfl,tA,r,lA,j12 vB (by simp),j12 vB (by simp),j12 vB (by simp)⟩
theorem q39{f:Nat}(ih:Snd f){G:List M.Tm}{t W:M.Tm}{y:An}{u:Tr}(hG:y48 G)(hv:valid sigT (enc t)=true)(h:chkV (infV f (ctxE G) (enc t)) (enc W) y=some (u,0)): ∃X,Ty G t X/\Cv X W/\Lim G t/\y=some (u,0):=by
 obtain⟨s,h1,h2,h3⟩:=y34 h;obtain⟨X,rfl,tX,lX,-⟩:=ih G t s hG hv h1;exact⟨X,tX,y165 h2,lX,h3⟩
theorem y176{f:Nat}(ih:Snd f){G:List M.Tm}{p T:M.Tm}{y:An}{u:Tr}(hG:y48 G)(hv:valid sigT (enc p)=true)(h:famV (infV f (ctxE G) (enc p)) (enc T) y=some (u,0)): ∃F C D k,Ty G p F/\HR F (.pi C D)/\Cv C T/\HR D (.sort k)/\Lim G p/\y=some (u,0):=by
 obtain⟨F0,s,c,h1,h2,h3,h4,h5,h6,h7⟩:=y138 h;obtain⟨F,C,D,rfl,tF,rF,lF,-,-⟩:=snd_pi ih hG hv (s:=s) (by
  unfold frmV thn;rw[h1];simp only[if_true];unfold shpV;rw[if_neg (by rw[h2];simp),if_neg (by rw[h2];simpa using h3),h2])
 obtain⟨B,rfl,r,-,-⟩:=j52 (show hnfV (enc D) 200=(c,0) from h5);obtain⟨k,rfl⟩:=kind2 h6;exact⟨F,C,D,k,tF,rF,y165 h4,r,lF,h7⟩
theorem snd: ∀f,Snd f
 |0=> fun G t x hG hv h=> by cases h
 |f+1=> fun G t x hG hv h=> by
  have ih:=snd f;cases t with
  |var n=>
   have h1:some (lkV (ctxE G) (n:Int))=some (x,0):=h;by_cases hn:n < G.length
   · rw[lkV_enc hn] at h1
     obtain⟨v,rfl⟩:=y37 h1;exact⟨_,rfl,.var (lk_get hn),trivial,v⟩
   · unfold lkV at h1
     rw[if_pos (by rw[q63];omega)] at h1;simp at h1
  |sort n=>
   have h1:some (if(n:Int)=3 then(y14,(1:Int)) else(srtT ((n:Int)+1),0))=some (x,0):=by
    rw[<-h];simp[enc,infV,judV]
   split at h1
   · simp at h1
   · rename_i hn
     simp only[Option.some.injEq,Prod.mk.injEq,and_true] at h1;have hle:(n:Int)<=3:=(j11 (y11 hv).1).2.2.1;refine⟨.sort (n+1),by rw[<-h1];rfl,.sort,by show n < 3;omega, ?_⟩;have: ∀m:Fin 4,valid sigT (enc (.sort m.val))=true:=by decide+kernel
     exact this ⟨n+1,by omega⟩
  |nat=>
   have h1:some (srtT 0,(0:Int))=some (x,0):=h;simp only[Option.some.injEq,Prod.mk.injEq,and_true] at h1;exact⟨.sort 0,by rw[<-h1];rfl,.nat,trivial,by decide+kernel⟩
  |zero=>
   have h1:some (natT,(0:Int))=some (x,0):=h;simp only[Option.some.injEq,Prod.mk.injEq,and_true] at h1;exact⟨.nat,by rw[<-h1];rfl,.zero,trivial,by decide+kernel⟩
  |succ a=>
   have h1:chkV (infV f (ctxE G) (enc a)) (enc .nat) (some (natT,0))=some (x,0):=h;obtain⟨X,tX,cX,lX,h2⟩:=q39 ih hG (j12 hv (by simp)) h1;simp only[Option.some.injEq,Prod.mk.injEq,and_true] at h2;exact⟨.nat,by rw[<-h2];rfl,.succ tX cX,lX,by decide+kernel⟩
  |pi A B=>
   have h1:thn (frmV (infV f (ctxE G) (enc A)) 2) (fun a=> thn (frmV (tyV (infV f) (ctxE G) 3 [enc A,enc B] 1) 2) fun b=> some (srtT (max a.num b.num),0))=some (x,0):=h;obtain⟨s,h2,h3⟩:=q17 h1;obtain⟨S,i,rfl,tA,rA,lA,bA,hi⟩:=y39 ih hG (j12 hv (by simp)) h2;obtain⟨s2,h4,h5⟩:=q17 h3;obtain⟨u,h6,h7,h8⟩:=y47 h4;obtain⟨h9,h10⟩:=uty rfl h6;have N7:=hG.cons bA (j12 hv (by simp));rw[show ctxE G++ [kd [enc A,enc B] 0]=ctxE (A::G) from(q54 A G).symm] at h10;obtain⟨S',j,rfl,tB,rB,lB,bB,hj⟩:=y39 ih N7 (j12 hv (by simp)) (A:=B) (s:=s2) (by
    unfold frmV thn;rw[show infV f (ctxE (A::G)) (enc B)=some (u,0) from h10];simp only[if_true];unfold shpV;rw[if_neg (by rw[h7];simp),if_neg (by rw[h7];simpa using h8),h7])
   simp only[Option.some.injEq,Prod.mk.injEq,and_true] at h5;refine⟨.sort (max i j),by rw[<-h5];simp only[enc,Tr.num,srtT];congr 1;omega,.pi tA rA tB rB,⟨lA,lB⟩, ?_⟩;have: ∀m:Fin 4,valid sigT (enc (.sort m.val))=true:=by decide+kernel
   exact this ⟨max i j,by omega⟩
  |sg A B=>
   have h1:thn (frmV (infV f (ctxE G) (enc A)) 2) (fun a=> thn (frmV (tyV (infV f) (ctxE G) 13 [enc A,enc B] 1) 2) fun b=> some (srtT (max a.num b.num),0))=some (x,0):=h;obtain⟨s,h2,h3⟩:=q17 h1;obtain⟨S,i,rfl,tA,rA,lA,bA,hi⟩:=y39 ih hG (j12 hv (by simp)) h2;obtain⟨s2,h4,h5⟩:=q17 h3;obtain⟨u,h6,h7,h8⟩:=y47 h4;obtain⟨h9,h10⟩:=uty rfl h6;have N7:=hG.cons bA (j12 hv (by simp));rw[show ctxE G++ [kd [enc A,enc B] 0]=ctxE (A::G) from(q54 A G).symm] at h10;obtain⟨S',j,rfl,tB,rB,lB,bB,hj⟩:=y39 ih N7 (j12 hv (by simp)) (A:=B) (s:=s2) (by
    unfold frmV thn;rw[show infV f (ctxE (A::G)) (enc B)=some (u,0) from h10];simp only[if_true];unfold shpV;rw[if_neg (by rw[h7];simp),if_neg (by rw[h7];simpa using h8),h7])
   simp only[Option.some.injEq,Prod.mk.injEq,and_true] at h5;refine⟨.sort (max i j),by rw[<-h5];simp only[enc,Tr.num,srtT];congr 1;omega,.sg tA rA tB rB,⟨lA,lB⟩, ?_⟩;have: ∀m:Fin 4,valid sigT (enc (.sort m.val))=true:=by decide+kernel
   exact this ⟨max i j,by omega⟩
  |lam A t=>
   have h1:thn (frmV (infV f (ctxE G) (enc A)) 2) (fun _=> thn (tyV (infV f) (ctxE G) 4 [enc A,enc t] 1) fun b=> thn (some (mkV (.mk 3 0 [enc A,b]))) fun out=> thn (infV f (ctxE G) out) fun _=> some (out,0))=some (x,0):=h;obtain⟨s,h2,h3⟩:=q17 h1;obtain⟨S,i,rfl,tA,rA,lA,bA,hi⟩:=y39 ih hG (j12 hv (by simp)) h2;obtain⟨b,h4,h5⟩:=q17 h3;obtain⟨h6,h7⟩:=uty rfl h4;have N7:=hG.cons bA (j12 hv (by simp));rw[show ctxE G++ [kd [enc A,enc t] 0]=ctxE (A::G) from(q54 A G).symm] at h7;obtain⟨B,rfl,tB,lB,vB⟩:=ih (A::G) t b N7 (j12 hv (by simp)) h7;obtain⟨h8,h9⟩:=j67 h5;obtain⟨v,e⟩:=j84 h8;rw[e] at h9;obtain⟨s3,h10,h11⟩:=q17 h9;obtain⟨P,rfl,tP,lP,-⟩:=ih G (.pi A B) s3 hG v h10;simp only[Option.some.injEq,Prod.mk.injEq,and_true] at h11;refine⟨.pi A B,h11.symm,.lam tA rA tB,⟨lA,lB,fun B' k' hB hk=> ?_⟩,v⟩;obtain rfl:=tB.det hB;cases tP with
   |pi k1 k2 k3 k4=>
    have:=M.lev_le (Lim.type (.pi k1 k2 k3 k4) hG.wf lP) (.refl _);have e2:=hk.det ⟨_,k3,k4⟩;omega
  |app g a=>
   have h1:thn (frmV (infV f (ctxE G) (enc g)) 3) (fun s=> chkV (infV f (ctxE G) (enc a)) (kd s.kids 0) (some (mkV (sbsT (enc a) (kd s.kids 1) 0 0))))=some (x,0):=h;obtain⟨s,h2,h3⟩:=q17 h1;obtain⟨F,C,R,rfl,tF,rF,lF,vC,vR⟩:=snd_pi ih hG (j12 hv (by simp)) h2;obtain⟨X,tX,cX,lX,h4⟩:=q39 ih hG (j12 hv (by simp)) (W:=C) h3;obtain⟨v,rfl⟩:=y37 h4;have e:sbsT (enc a) (kd (enc (.pi C R)).kids 1) 0 0=enc (R.inst a):=j60 R a;rw[e] at v⊢;exact⟨_,rfl,.app tF rF tX cX,⟨lF,lX⟩,v⟩
  |elim p z s a=>
   have h1:famV (infV f (ctxE G) (enc p)) (enc .nat) (thn (some (mkV (.mk 5 0 [enc p,.mk 7 0 []]))) fun w=> chkV (infV f (ctxE G) (enc z)) w (thn (some (mkV (stpT (enc p)))) fun w2=> chkV (infV f (ctxE G) (enc s)) w2 (chkV (infV f (ctxE G) (enc a)) (enc .nat) (some (mkV (.mk 5 0 [enc p,enc a]))))))=some (x,0):=h;obtain⟨F,C,D,k,tF,rF,cC,rD,lF,h2⟩:=y176 ih hG (j12 hv (by simp)) h1;obtain⟨h3,h4⟩:=j67 h2;obtain⟨v1,e1⟩:=j84 h3;rw[e1] at h4;obtain⟨Z,tZ,cZ,lZ,h5⟩:=q39 ih hG (j12 hv (by simp)) (W:= .app p .zero) h4;obtain⟨h6,h7⟩:=j67 h5;obtain⟨v2,e2⟩:=j84 h6;rw[e2,q216] at h7;obtain⟨S,tS,cS,lS,h8⟩:=q39 ih hG (j12 hv (by simp)) h7;obtain⟨X,tX,cX,lX,h9⟩:=q39 ih hG (j12 hv (by simp)) h8;obtain⟨v3,rfl⟩:=y37 h9;exact⟨.app p a,rfl,.elim tF rF cC rD tZ cZ tS cS tX cX,⟨lF,lZ,lS,lX⟩,v3⟩
  |id T a b=>
   have h1:thn (frmV (infV f (ctxE G) (enc T)) 2) (fun s=> chkV (infV f (ctxE G) (enc a)) (enc T) (chkV (infV f (ctxE G) (enc b)) (enc T) (some (srtT s.num,0))))=some (x,0):=h;obtain⟨s,h2,h3⟩:=q17 h1;obtain⟨S,i,rfl,tA,rA,lA,bA,hi⟩:=y39 ih hG (j12 hv (by simp)) h2;obtain⟨X,tX,cX,lX,h4⟩:=q39 ih hG (j12 hv (by simp)) h3;obtain⟨Y,tY,cY,lY,h5⟩:=q39 ih hG (j12 hv (by simp)) h4;simp only[Option.some.injEq,Prod.mk.injEq,and_true] at h5;refine⟨.sort i,by rw[<-h5];rfl,.id tA rA tX cX tY cY,⟨lA,lX,lY⟩, ?_⟩;have: ∀m:Fin 4,valid sigT (enc (.sort m.val))=true:=by decide+kernel
   exact this ⟨i,by omega⟩
  |refl a=>
   have h1:thn (infV f (ctxE G) (enc a)) (fun s=> thn (frmV (infV f (ctxE G) s) 2) fun _=> some (mkV (.mk 10 0 [s,enc a,enc a])))=some (x,0):=h;obtain⟨s,h2,h3⟩:=q17 h1;obtain⟨A,rfl,tA,lA,vA⟩:=ih G a s hG (j12 hv (by simp)) h2;obtain⟨s2,h4,h5⟩:=q17 h3;obtain⟨S,i,rfl,tS,rS,lS,bS,hi⟩:=y39 ih hG vA h4;obtain⟨v,rfl⟩:=y37 h5;refine⟨.id A a a,rfl,.refl tA,⟨lA,fun B' k' hB hk=> ?_⟩,v⟩;obtain rfl:=tA.det hB;have:=hk.det ⟨S,tS,rS⟩;omega
  |move p e a=>
   have h1:thn (frmV (infV f (ctxE G) (enc e)) 10) (fun s=> famV (infV f (ctxE G) (enc p)) (kd s.kids 0) (thn (some (mkV (.mk 5 0 [enc p,kd s.kids 1]))) fun w=> chkV (infV f (ctxE G) (enc a)) w (some (mkV (.mk 5 0 [enc p,kd s.kids 2])))))=some (x,0):=h;obtain⟨s,h2,h3⟩:=q17 h1;obtain⟨E,T,b,c,rfl,tE,rE,lE,vT,vb,vc⟩:=snd_id ih hG (j12 hv (by simp)) h2;obtain⟨F,C,D,k,tF,rF,cC,rD,lF,h4⟩:=y176 ih hG (j12 hv (by simp)) (T:=T) h3;obtain⟨h5,h6⟩:=j67 h4;obtain⟨v1,e1⟩:=j84 h5;rw[e1] at h6;obtain⟨X,tX,cX,lX,h7⟩:=q39 ih hG (j12 hv (by simp)) (W:= .app p b) h6;obtain⟨v2,rfl⟩:=y37 h7;exact⟨.app p c,rfl,.move tE rE tF rF cC rD tX cX,⟨lF,lE,lX⟩,v2⟩
  |pair T a b=>
   have h1:thn (frmV (infV f (ctxE G) (enc T)) 2) (fun _=> thn (some (shpV (enc T) 13)) fun s=> chkV (infV f (ctxE G) (enc a)) (kd s.kids 0) (thn (some (mkV (sbsT (enc a) (kd s.kids 1) 0 0))) fun w=> chkV (infV f (ctxE G) (enc b)) w (some (enc T,0))))=some (x,0):=h;obtain⟨s,h2,h3⟩:=q17 h1;obtain⟨S,i,rfl,tA,rA,lA,bA,hi⟩:=y39 ih hG (j12 hv (by simp)) h2;obtain⟨h4,h5⟩:=j67 h3;obtain⟨h6,h7⟩:=j116 h4;generalize (shpV (enc T) 13).1=q at h5 h6 h7;obtain⟨B,rfl,r,-,vB⟩:=j52 h6;obtain⟨C,R,rfl⟩:=kind13 h7;obtain⟨X,tX,cX,lX,h8⟩:=q39 ih hG (j12 hv (by simp)) (W:=C) h5;obtain⟨h9,h10⟩:=j67 h8;obtain⟨v1,e1⟩:=j84 h9;have e:sbsT (enc a) (kd (enc (.sg C R)).kids 1) 0 0=enc (R.inst a):=j60 R a;rw[e1,e] at h10;obtain⟨Y,tY,cY,lY,h11⟩:=q39 ih hG (j12 hv (by simp)) h10;simp only[Option.some.injEq,Prod.mk.injEq,and_true] at h11;exact⟨T,h11.symm,.pair tA rA r tX cX tY cY,⟨lA,lX,lY⟩,j12 hv (by simp)⟩
  |fst a=>
   have h1:thn (frmV (infV f (ctxE G) (enc a)) 13) (fun s=> some (kd s.kids 0,0))=some (x,0):=h;obtain⟨s,h2,h3⟩:=q17 h1;obtain⟨F,C,R,rfl,tF,rF,lF,vC,vR⟩:=snd_sg ih hG (j12 hv (by simp)) h2;simp only[Option.some.injEq,Prod.mk.injEq,and_true] at h3;exact⟨C,h3.symm,.fst tF rF,lF,vC⟩
  |snd a=>
   have h1:thn (frmV (infV f (ctxE G) (enc a)) 13) (fun s=> some (mkV (sbsT (.mk 15 0 [enc a]) (kd s.kids 1) 0 0)))=some (x,0):=h;obtain⟨s,h2,h3⟩:=q17 h1;obtain⟨F,C,R,rfl,tF,rF,lF,vC,vR⟩:=snd_sg ih hG (j12 hv (by simp)) h2;obtain⟨v,rfl⟩:=y37 h3;have e:sbsT (.mk 15 0 [enc a]) (kd (enc (.sg C R)).kids 1) 0 0=enc (R.inst (.fst a)):=j60 R (.fst a);rw[e] at v⊢;exact⟨_,rfl,.snd tF rF,lF,v⟩
end Go.Proofs.YtbnkbepgmenblaaGreatDoor
namespace Go.Proofs.YtbnkbepgmenblaaGreatDoor
open Go.RowKit
attribute [local go_sem ↓] Go.wp_at_zero Go.wp_at_succ
def fnV(k:Int):Option Tr:=prsV (gtx k)
theorem j74{k:Int}(h: ¬(1<=k/\k<=7)):gtx k= []:=by
 unfold gtx fnT;simp only[if_neg (show¬k=1 by omega),if_neg (show¬k=2 by omega),if_neg (show¬k=3 by omega),if_neg (show¬k=4 by omega),if_neg (show¬k=5 by omega),if_neg (show¬k=6 by omega),if_neg (show¬k=7 by omega)]
theorem q96{k:Int}(h: ¬(1<=k/\k<=7)):ftx k= []:=by
 unfold ftx;simp only[if_neg (show¬k=1 by omega),if_neg (show¬k=2 by omega),if_neg (show¬k=3 by omega),if_neg (show¬k=4 by omega),if_neg (show¬k=5 by omega),if_neg (show¬k=6 by omega),if_neg (show¬k=7 by omega)]
theorem prs_nil:prsV []=none:=by decide+kernel
theorem y133:Lib.replaceAll [] [80] (ftx 1)= []/\Lib.replaceAll [] [81] (ftx 3)= []:=by decide+kernel
theorem seven{k:Int}(h:1<=k/\k<=7):k=1\/k=2\/k=3\/k=4\/k=5\/k=6\/k=7:=by omega
theorem rep_two(k:Int):Lib.replaceAll (Lib.replaceAll (ftx k) [80] (ftx 1)) [81] (ftx 3)=gtx k:=by
 by_cases h:1<=k/\k<=7
 · obtain⟨n,hn,rfl⟩: ∃n:Nat,n < 8/\k=(n:Int):=⟨k.toNat,by omega,by omega⟩
   have:=rep_all ⟨n,hn⟩;rw[this.1,this.2]
 · rw[q96 h,j74 h,y133.1,y133.2]
theorem j83(k:Int):(ftx k).length<=200/\(Lib.replaceAll (ftx k) [80] (ftx 1)).length<=400/\(gtx k).length<=400:=by
 by_cases h:1<=k/\k<=7
 · have: ∀n:Fin 8,(ftx (n.val:Int)).length<=200/\(Lib.replaceAll (ftx (n.val:Int)) [80] (ftx 1)).length<=400/\(gtx (n.val:Int)).length<=400:=by decide+kernel
   obtain⟨n,hn,rfl⟩: ∃n:Nat,n < 8/\k=(n:Int):=⟨k.toNat,by omega,by omega⟩;exact this ⟨n,hn⟩
 · rw[q96 h,j74 h,y133.1];simp
theorem y67(k:Int)(w:World):Calls Tryz.prog 15 #[.int .i64 k] w fun e w'=> e= .returned (.string (ofL (ftx k)))/\Ext w w':=by
 by_cases h:1<=k/\k<=7
 · rcases seven h with rfl|rfl|rfl|rfl|rfl|rfl|rfl
   all_goals go_enter Tryz.func15,Tryz.ntmps15
   all_goals go_wp2_with fail
   all_goals go_ret
   all_goals exact⟨rfl,xr _⟩
 · have d1:(k==1)=false:=by simp;omega
   have d2:(k==2)=false:=by simp;omega
   have d3:(k==3)=false:=by simp;omega
   have d4:(k==4)=false:=by simp;omega
   have d5:(k==5)=false:=by simp;omega
   have d6:(k==6)=false:=by simp;omega
   have d7:(k==7)=false:=by simp;omega
   rw[q96 h];go_enter Tryz.func15,Tryz.ntmps15;go_wp2_with fail;go_ret;exact⟨rfl,xr _⟩
theorem q65(a b c:List UInt8)(w:World)(hW:EnvR w)(hb:b.length=1)(ha:a.length<=1000)(hc:c.length<=1000):
 Calls Tryz.prog 14 #[.string (ofL a),.string (ofL b),.string (ofL c)] w fun e w'=> e= .returned (.string (ofL (Lib.replaceAll a b c)))/\Ext w w':=by
 have xg:=Lib.countB_mul_le (ofL b) (by rw[j17];omega) (ofL a).size (ofL a) (Nat.le_refl _);rw[j17,j17,hb,Nat.mul_one] at xg;obtain⟨m,hm⟩:=hW.1;have:=Tryz.strings_ReplaceAll (ofL a) (ofL b) (ofL c) m w (by rw[j17];omega) hm (by rw[j17];omega) (by
  rw[j17,j17];have:Lib.countB (ofL a) (ofL b)*c.length<=1000*1000:=Nat.mul_le_mul (by omega) hc;omega)
 rw[y22,y22,y22] at this;exact this.mono fun e w' ⟨h1,h2⟩=>⟨h1,h2⟩
theorem y137(k:Int)(w:World)(hW:EnvR w):Calls Tryz.prog 5 #[.int .i64 k] w fun e w'=> ∃u,e= .returned (.tuple #[u,.bool (fnV k).isSome])/\Made w w' 26 ((fnV k).getD y14) u/\Ext w w':=by
 obtain⟨T0,h0⟩: ∃l,ftx k=l:=⟨_,rfl⟩;obtain⟨T1,h1⟩: ∃l,ftx 1=l:=⟨_,rfl⟩;obtain⟨T3,h3⟩: ∃l,ftx 3=l:=⟨_,rfl⟩;have H0:=hdq (fun W=> y67 k W);have H1:=hdq (fun W=> y67 1 W);have H3:=hdq (fun W=> y67 3 W);have hr:=rep_two k;have l0:=(j83 k).1;have l1:=(j83 1).1;have l3:=(j83 3).1;have lr:=(j83 k).2.1;have lg:=(j83 k).2.2;rw[<-hr] at lg;unfold fnV;rw[<-hr];rw[h0,h1,h3] at hr lg⊢;rw[h0] at H0 l0;rw[h1] at H1 l1;rw[h3] at H3 l3;rw[h0,h1] at lr;have HA:=hdq (fun W (hx:Ext w W)=> q65 T0 [80] T1 W (hW.ext hx) rfl (by omega) (by omega));obtain⟨TA,hA⟩: ∃l,Lib.replaceAll T0 [80] T1=l:=⟨_,rfl⟩;rw[hA] at HA hr lr lg⊢;have HB:=hdq (fun W (hx:Ext w W)=> q65 TA [81] T3 W (hW.ext hx) rfl (by omega) (by omega));obtain⟨TB,hB⟩: ∃l,Lib.replaceAll TA [81] T3=l:=⟨_,rfl⟩;rw[hB] at HB hr lg⊢;have HP:=hdq (fun W (hx:Ext w W)=> y99 TB (by omega) W (hW.ext hx));obtain⟨R,hR⟩: ∃R,prsV TB=R:=⟨_,rfl⟩;rw[hR] at HP⊢;clear hr hR hA hB h0 h1 h3 l0 l1 l3 lr lg;obtain⟨S0,s0⟩: ∃s,ofL T0=s:=⟨_,rfl⟩;obtain⟨S1,s1⟩: ∃s,ofL T1=s:=⟨_,rfl⟩;obtain⟨S3,s3⟩: ∃s,ofL T3=s:=⟨_,rfl⟩;obtain⟨SA,sA⟩: ∃s,ofL TA=s:=⟨_,rfl⟩;obtain⟨SB,sB⟩: ∃s,ofL TB=s:=⟨_,rfl⟩;rw[s0] at H0 HA;rw[s1] at H1 HA;rw[s3] at H3 HB;rw[sA] at HA HB;rw[sB] at HB HP;rw[show ofL [80]={data:=#[80]} from rfl] at HA;rw[show ofL [81]={data:=#[81]} from rfl] at HB;clear s0 s1 s3 sA sB;have hx0:=(xr w).alloc (.cells #[.int .i64 0,.int .i64 0,.slice none 0 0] 26);go_enter Tryz.func5,Tryz.ntmps5;go_wp2_with fail;refine(H0.out _).mono ?_;rintro e w1 ⟨rfl,h1⟩;have x1:=hx0.trans h1;have x01:Ext (w.alloc (.cells #[.int .i64 0,.int .i64 0,.slice none 0 0] 26)) w1:=h1;clear h1;go_wp2_with fail;refine(H1.out _).mono ?_;rintro e w2 ⟨rfl,h1⟩;have x2:=x1.trans h1;have Bf:=x01.trans h1;clear x1 h1 x01;go_wp2_with fail;refine(HA.out _ x2).mono ?_;rintro e w3 ⟨rfl,h1⟩;have x3:=x2.trans h1;have x03:=Bf.trans h1;clear x2 h1 Bf;go_wp2_with fail;refine(H3.out _).mono ?_;rintro e w4 ⟨rfl,h1⟩;have x4:=x3.trans h1;have x04:=x03.trans h1;clear x3 h1 x03;go_wp2_with fail;refine(HB.out _ x4).mono ?_;rintro e w5 ⟨rfl,h1⟩;have x5:=x4.trans h1;have x05:=x04.trans h1;clear x4 h1 x04;go_wp2_with fail;refine(HP.out _ x5).mono ?_;rintro e w6 ⟨u,rfl,hM,h1⟩;obtain⟨a,b,A,l,c,rfl⟩:=hM.three;have x6:=x5.trans h1;have x06:=x05.trans h1;have Kf:=(hM.since (a:=w.alloc (.cells #[.int .i64 0,.int .i64 0,.slice none 0 0] 26)) x05.size);have hs:=x06.size;obtain⟨y0,y1,y2,f0,f1,f2⟩:=own3 (x06.blk (heap_alloc_new w _));go_wp2_with fail;refine bodyPost_ret (v:= .tuple #[.agg #[.int .i64 a,.int .i64 b,.slice A l c],.bool R.isSome]) (by simp[results,Tryz.results5,go_sem,y0,y1,y2]) rfl ⟨_,rfl, ?_, ?_⟩
 · exact Made.since (w:=w.alloc (.cells #[.int .i64 0,.int .i64 0,.slice none 0 0] 26)) (Kf.after ((((q23.refl _ _).setCell (p:=⟨w.heap.size,0,none⟩) (by simp) _).setCell (p:=⟨w.heap.size,1,none⟩) (by simp) _).setCell (p:=⟨w.heap.size,2,none⟩) (by simp) _)) (by simp)
 · exact((x6.setCell (by simp) _).setCell (by simp) _).setCell (by simp) _
theorem j130(w:World):Calls Tryz.prog 18 #[] w fun e w'=> ∃b,e= .returned (.slice (some ⟨b,0,none⟩) 8 8)/\w.heap.size<=b/\(∀k:Nat,k < 8->w'.cell? ⟨b,k,none⟩=some (.string (ofL (gtx k))))/\Ext w w':=by
 go_enter Tryz.func18,Tryz.ntmps18;go_wp2_with fail;go_enter Tryz.func31,Tryz.ntmps31;go_wp2_with fail;go_ret;go_wp2_with fail;refine⟨fun k hk=> ?_, ?_⟩
 · rcases(show k=0\/k=1\/k=2\/k=3\/k=4\/k=5\/k=6\/k=7 by omega) with rfl|rfl|rfl|rfl|rfl|rfl|rfl|rfl
   · simp only[List.getElem?_cons_zero];exact congrArg (fun s=> some (Value.string s)) (by decide+kernel)
   all_goals(simp only[List.getElem?_cons_zero,List.getElem?_cons_succ];exact congrArg (fun s=> some (Value.string s)) (by decide+kernel))
 · exact(xr w).alloc _
theorem q212(k:Int):(ofL (gtx k)).size<=1000000000:=by have:=(j83 k).2.2;rw[j17];omega
theorem q94(k:Int)(w:World):Calls Tryz.prog 6 #[.int .i64 k] w fun e w'=> ∃u,e= .returned (.tuple #[u,.bool (fnV k).isSome])/\From w.heap.size w' ((fnV k).getD y14) u/\Ext w w':=by
 have hx0:=(xr w).alloc (.cells #[.int .i64 0,.int .i64 0,.slice none 0 0] 26);by_cases h:1<=k/\k<=7
 · have HP:=hdq (fun W=> y112 (ofL (gtx k)) W (q212 k))
   rw[y22] at HP;unfold fnV;obtain⟨R,hR⟩: ∃R,prsV (gtx k)=R:=⟨_,rfl⟩;rw[hR] at HP⊢;obtain⟨s,hs⟩: ∃s,ofL (gtx k)=s:=⟨_,rfl⟩;rw[hs] at HP;have HT:(∀W,Calls Tryz.prog 18 #[] W fun e w'=> ∃b,e= .returned (.slice (some ⟨b,0,none⟩) 8 8)/\W.heap.size<=b/\w'.cell? ⟨b,k.toNat,none⟩=some (.string s)/\Ext W w'):=(fun W=>(j130 W).mono (by
    rintro e w' ⟨b,rfl,h1,h2,h3⟩;refine⟨b,rfl,h1, ?_,h3⟩;rw[h2 k.toNat (by omega),<-hs,Int.toNat_of_nonneg (by omega)]))
   replace HT:=hdq HT;clear hR hs;rcases seven h with rfl|rfl|rfl|rfl|rfl|rfl|rfl
   all_goals go_enter Tryz.func6,Tryz.ntmps6
   all_goals go_wp2_with fail
   all_goals refine(HT.out _).mono ?_
   all_goals rintro e w1 ⟨b,rfl,hb,hcell,h1⟩
   all_goals simp only[Int.reduceToNat] at hcell
   all_goals go_wp2_with fail
   all_goals refine(HP.out _).mono ?_
   all_goals rintro e w2 ⟨u,rfl,hM,h2⟩
   all_goals obtain⟨a,b',A,l,c,rfl⟩:=hM.three
   all_goals have Bf:=h1.trans h2
   all_goals have x2:=hx0.trans Bf
   all_goals have s1:=h1.size
   all_goals simp only[World.size_alloc] at s1
   all_goals have Kf:=hM.since (C:=w.heap.size+1) s1
   all_goals obtain⟨y0,y1,y2,f0,f1,f2⟩:=own3 (Bf.blk (heap_alloc_new w _))
   all_goals go_wp2_with fail
   all_goals refine bodyPost_ret (v:= .tuple #[.agg #[.int .i64 a,.int .i64 b',.slice A l c],.bool R.isSome]) (by simp[results,Tryz.results6,go_sem,y0,y1,y2]) rfl ⟨_,rfl, ?_, ?_⟩
   all_goals first
    |exact((x2.setCell (by simp) _).setCell (by simp) _).setCell (by simp) _
    |exact From.since (((Kf.set (p:=⟨w.heap.size,0,none⟩) (by simp) _).set (p:=⟨w.heap.size,1,none⟩) (by simp) _).set (p:=⟨w.heap.size,2,none⟩) (by simp) _) (by omega)
 · have hn:fnV k=none:=by unfold fnV;rw[j74 h];exact prs_nil
   rw[hn];obtain⟨y0,y1,y2,f0,f1,f2⟩:=own3 (heap_alloc_new w (.cells #[.int .i64 0,.int .i64 0,.slice none 0 0] 26));by_cases h1:k < 1
   · have d1:decide (k < 1)=true:=decide_eq_true h1
     go_enter Tryz.func6,Tryz.ntmps6;go_wp2_with fail;refine bodyPost_ret (v:= .tuple #[.agg #[.int .i64 0,.int .i64 0,.slice none 0 0],.bool false]) (by simp[results,Tryz.results6,go_sem,y0,y1,y2]) rfl ⟨_,rfl,From.leaf _ _ 0 0, ?_⟩;exact hx0
   · have d1:decide (k < 1)=false:=decide_eq_false h1
     have d2:decide (7 < k)=true:=decide_eq_true (by omega);go_enter Tryz.func6,Tryz.ntmps6;go_wp2_with fail;refine bodyPost_ret (v:= .tuple #[.agg #[.int .i64 0,.int .i64 0,.slice none 0 0],.bool false]) (by simp[results,Tryz.results6,go_sem,y0,y1,y2]) rfl ⟨_,rfl,From.leaf _ _ 0 0, ?_⟩;exact hx0
end Go.Proofs.YtbnkbepgmenblaaGreatDoor
namespace Go.Proofs.YtbnkbepgmenblaaGreatDoor
open Go.RowKit
theorem j161{x:Tr}(h:outT x=none)(f:Nat):nrmC f x=(x,0):=by
 cases f <;>(unfold nrmC;rw[h])
theorem y162{x:Tr}{p:List Int}(h:outT x=some p):nrmC 0 x=(y14,1):=by
 unfold nrmC;rw[h]
theorem nrmC_no{x:Tr}{p:List Int}(h:outT x=some p)(hv:valid sigT (conA x p)=false)(f:Nat):nrmC (f+1) x=(y14,2):=by
 rw[nrmC,h];simp only;rw[if_neg (by rw[hv];decide)]
theorem nrmC_go{x:Tr}{p:List Int}(h:outT x=some p)(hv:valid sigT (conA x p)=true)(f:Nat):nrmC (f+1) x=nrmC f (conA x p):=by
 rw[nrmC,h];simp only;rw[if_pos hv]
theorem y151(t:Tr)(f:Int)(w:World)(v:Value)(j8:Lies w t v):
 Calls Tryz.prog 35 #[v,.int .i64 f,.func (.func 36) #[] #[]] w fun e w'=> ∃r s,e= .returned (.tuple #[r,.int .i64 s,.int .i64 (y80 t f).2])/\Made w w' 26 (y80 t f).1 r/\Ext w w':=by
 have HV:=hdq (fun W (hW:Ext w W)=> j16 t W v (j8.ext hW));have E:y80 t f=if(valid sigT t && inR f 0 200)=true then nrmC f.toNat t else(y14,3):=rfl
 rw[E];clear E;obtain⟨z,hz⟩: ∃z,valid sigT t=z:=⟨_,rfl⟩;obtain⟨y,hy⟩: ∃y,inR f 0 200=y:=⟨_,rfl⟩;rw[hz] at HV⊢;rw[hy];obtain⟨k,n,ks⟩:=t;obtain⟨A,cap,rfl,hl,hc,hK⟩:=Lies.mk_iff.1 j8;have hx0:=((xr w).alloc (.cells #[.int .i64 k,.int .i64 n,.slice A ks.length cap] 26)).alloc (.cells #[.int .i64 0,.int .i64 0,.slice none 0 0] 26);obtain⟨hb0,hb1,hs2⟩:=blk2 (xr ((w.alloc (.cells #[.int .i64 k,.int .i64 n,.slice A ks.length cap] 26)).alloc (.cells #[.int .i64 0,.int .i64 0,.slice none 0 0] 26)));obtain⟨wS,I2⟩: ∃x,x=(w.alloc (.cells #[.int .i64 k,.int .i64 n,.slice A ks.length cap] 26)).alloc (.cells #[.int .i64 0,.int .i64 0,.slice none 0 0] 26):=⟨_,rfl⟩;rw[<-I2] at hx0 hb0 hb1 hs2;cases z with
 |false=>
  rw[if_neg (by simp)];go_enter Tryz.func35,Tryz.ntmps35;go_wp2_with fail;rw[<-I2];clear I2;refine(HV.out _ hx0).mono ?_;rintro e w1 ⟨rfl,h1⟩;obtain⟨s0,s1,s2,f0,f1,f2⟩:=own3 (h1.blk hb1);go_wp2_with fail;refine bodyPost_ret (v:= .tuple #[.agg #[.int .i64 0,.int .i64 0,.slice none 0 0],.int .i64 0,.int .i64 3]) (by simp[results,Tryz.results35,go_sem,s0,s1,s2]) rfl ⟨_,_,rfl,Made.leaf _ _ _ 0 0, ?_⟩;exact((((hx0.trans h1).setCell (by simp) _).setCell (by simp) _).setCell (by simp) _)
 |true=>
  cases y with
  |false=>
   rw[if_neg (by simp)];go_enter Tryz.func35,Tryz.ntmps35;go_wp2_with fail;rw[<-I2];clear I2;refine(HV.out _ hx0).mono ?_;rintro e w1 ⟨rfl,h1⟩;obtain⟨s0,s1,s2,f0,f1,f2⟩:=own3 (h1.blk hb1);go_wp2_with (go_at_call 70;refine(j21 _ _ _ _).mono ?_;rw[hy];rintro e w3 ⟨rfl,rfl⟩)
   refine bodyPost_ret (v:= .tuple #[.agg #[.int .i64 0,.int .i64 0,.slice none 0 0],.int .i64 0,.int .i64 3]) (by simp[results,Tryz.results35,go_sem,s0,s1,s2]) rfl ⟨_,_,rfl,Made.leaf _ _ _ 0 0, ?_⟩;exact((((hx0.trans h1).setCell (by simp) _).setCell (by simp) _).setCell (by simp) _)
  |true=>
   rw[if_pos (by simp)];obtain⟨Z1,hf2⟩:=j31.1 hy;obtain⟨F,rfl⟩:=Int.eq_ofNat_of_zero_le Z1;rw[show((F:Int)).toNat=F from by omega];obtain⟨R,hR⟩: ∃R,nrmC F (.mk k n ks)=R:=⟨_,rfl⟩;rw[hR];have HR:=hdq hR;have HY:=hdq hy;have HZ:=hdq hz;have HF:=hdq hf2;clear hy hR hz Z1 hf2;go_enter Tryz.func35,Tryz.ntmps35;go_wp2_with fail;rw[<-I2];clear I2;refine(HV.out _ hx0).mono ?_;rintro e w1 ⟨rfl,h1⟩;have mm:=h1.blk hb0;have z8:=h1.blk hb1;have hx1:=hx0.trans h1;go_wp2_with (go_at_call 70;refine(j21 _ _ _ _).mono ?_;rw[HY.out];rintro e w3 ⟨rfl,rfl⟩)
   clear HV hx0 hb0 hb1 hs2 h1 j8 HY
   go_loopw [9] (fun i wr=> ∃(j:Nat) (k' n':Int) (kids:List Tr) (A':Option Addr) (c':Nat),j<=F/\i= .int .i64 j/\
    Hid (nrmC (F - j) (.mk k' n' kids)=R)/\Hid (valid sigT (.mk k' n' kids)=true)/\kids.length<=c'/\c'<=maxLen/\InK wr (fun b=> b < wr.heap.size/\(b < w.heap.size\/w.heap.size+2<=b)) A' kids/\
    wr.heap[w.heap.size]? =some (.cells #[.int .i64 k',.int .i64 n',.slice A' kids.length c'] 26 (0,0))/\wr.heap[w.heap.size+1]? =some (.cells #[.int .i64 0,.int .i64 0,.slice none 0 0] 26 (0,0))/\Ext w wr) (fun i _=> F -(intOf i).toNat)
   case atStart=> exact⟨0,k,n,ks,A,cap,Nat.zero_le _,rfl,hdq HR.out,HZ,hl,hc,InK.mono (fun b hb=>⟨Nat.lt_of_lt_of_le hb hx1.size,.inl hb⟩) (fun b hb=> hx1.heap b hb) hK,mm,z8,hx1⟩
   case round=>
    obtain⟨j,k',n',kids,A',c',hj,rfl,HN,ot,I6,G9,hT,hb,I8,hx⟩:=hrel;have hsz:w.heap.size+1 < wr.heap.size:=j10 I8;have hL:Lies wr (.mk k' n' kids) (.agg #[.int .i64 k',.int .i64 n',.slice A' kids.length c']):=Lies.mk I6 G9 (InK.mono (fun b hb=> hb.1) (fun _ _=> rfl) hT);have HO:=y177 (.mk k' n' kids) wr _ 30 (j20 ot.out).2 hL (by decide);have HOW:=hdq (fun W (hW:Ext wr W)=> j38 (.mk k' n' kids) W _ (hL.ext hW) (by have:=(j20 ot.out).1;omega));have xo:=hdq (fun p (hp:outT (.mk k' n' kids)=some p) W (hW:Ext wr W) B c (hP:PFs W B p.length c p)=> j64 (.mk k' n' kids) p ot.out (q134 _ p hp) W _ (hL.ext hW) B p.length c hP (by have:=y116 _ 30 (j20 ot.out).2 p hp;omega));rw[show outP (.mk k' n' kids)=(outT (.mk k' n' kids)).getD [] from rfl] at HO;have S8:=hdq HO;clear HO hT hK mm z8 hx1;obtain⟨z0,z1,z2,-,-,-⟩:=own3 hb;obtain⟨q,hq⟩: ∃q,outT (.mk k' n' kids)=q:=⟨_,rfl⟩;rw[hq] at S8;cases q with
    |none=>
     have HE:=hdq (HN.out.symm.trans (j161 hq (F - j)));clear xo hq HN;go_wp2_with fail;refine S8.out.mono ?_;rintro e w2 ⟨x,rfl,-,h2⟩;obtain⟨y0,y1,y2,-,-,-⟩:=own3 (h2.blk hb);clear z0 z1 z2;go_wp2_with fail;refine(HOW.out _ h2).mono ?_;rintro e w3 ⟨r,rfl,hM,h3⟩;obtain⟨b1,b2,b3,b4,b5,rfl⟩:=hM.three';have C9:=h2.trans h3;obtain⟨s0,s1,s2,f0,f1,f2⟩:=own3 (C9.blk I8);have hw4:w.heap.size+2<=w2.heap.size:=by have:=h2.size;omega
     clear y0 y1 y2;go_wp2_with fail;rw[HE.out];refine bodyPost_ret (v:= .tuple #[.agg #[.int .i64 b1,.int .i64 b2,.slice b3 b4 b5],.int .i64 j,.int .i64 0]) (by simp[results,Tryz.results35,go_sem,s0,s1,s2]) rfl ⟨_,_,rfl,Made.since (hM.after ((((q23.refl _ _).setCell (p:=⟨w.heap.size+1,0,none⟩) (by show w.heap.size+1 < _;omega) (.int .i64 b1)).setCell (p:=⟨w.heap.size+1,1,none⟩) (by show w.heap.size+1 < _;omega) (.int .i64 b2)).setCell (p:=⟨w.heap.size+1,2,none⟩) (by show w.heap.size+1 < _;omega) (.slice b3 b4 b5))) (by omega), ?_⟩;exact((((hx.trans C9).setCell (by simp) _).setCell (by simp) _).setCell (by simp) _)
    |some p=>
     have M7:=hdq (xo.out p hq);simp only[Option.isSome_some,Option.getD_some] at S8;have HQ:=hdq hq;clear xo hq HOW;by_cases hjF:j=F
     · have HE:=hdq (HN.out.symm.trans (show nrmC (F - j) (.mk k' n' kids)=(y14,1) by rw[show F - j=0 by omega];exact y162 HQ.out))
       clear M7 HN;subst hjF;go_wp2_with fail;refine S8.out.mono ?_;rintro e w2 ⟨x,rfl,Y7,h2⟩;obtain⟨B,c,rfl,hP⟩:=j82 Y7;obtain⟨s0,s1,s2,f0,f1,f2⟩:=own3 (h2.blk I8);clear z0 z1 z2 Y7;go_wp2_with fail;rw[HE.out];refine bodyPost_ret (v:= .tuple #[.agg #[.int .i64 0,.int .i64 0,.slice none 0 0],.int .i64 j,.int .i64 1]) (by simp[results,Tryz.results35,go_sem,s0,s1,s2]) rfl ⟨_,_,rfl,Made.leaf _ _ _ 0 0, ?_⟩;exact((((hx.trans h2).setCell (by simp) _).setCell (by simp) _).setCell (by simp) _)
     · have S9:((j:Int)==(F:Int))=false:=beq_eq_false_iff_ne.2 (by omega)
       have ib:(j==F)=false:=beq_eq_false_iff_ne.2 hjF;have hlt:j < F:=by omega
       have hj3:(j:Int) < 200:=by have:=HF.out;omega
       have hj4:F<=200:=by have:=HF.out;omega
       obtain⟨g,hg⟩: ∃g,F - j=g+1:=⟨F - j - 1,by omega⟩;have hg2:F -(j+1)=g:=by omega
       have hcv:conV (.mk k' n' kids) p=if valid sigT (conA (.mk k' n' kids) p)=true then(conA (.mk k' n' kids) p,true) else(y14,false):=rfl
       have X6:=HN.out;rw[hg] at X6;by_cases hcx:valid sigT (conA (.mk k' n' kids) p)=true
       · rw[if_pos hcx] at hcv
         rw[nrmC_go HQ.out hcx,<-hg2] at X6;rw[hcv] at M7;clear hcv HN hg hg2;generalize conA (.mk k' n' kids) p=X at M7 X6 hcx;obtain⟨k2,n2,o8⟩:=X;have Bi:=hdq X6;have zi:=hdq hcx;clear X6 hcx;go_wp2_with fail;refine S8.out.mono ?_;rintro e w2 ⟨x,rfl,Y7,h2⟩;obtain⟨B,c,rfl,hP⟩:=j82 Y7;obtain⟨y0,y1,y2,-,-,-⟩:=own3 (h2.blk hb);clear z0 z1 z2 Y7;go_wp2_with fail;refine(M7.out _ h2 _ _ hP).mono ?_;rintro e w3 ⟨r,rfl,hM,h3⟩;have Cn:=From.made hM;obtain⟨A2,c2,rfl,hl2,hc2,hK2⟩:=InT.mk_iff.1 Cn;have C9:=(h2.trans h3).trans ((xr w3).alloc (.cells #[.int .i64 k2,.int .i64 n2,.slice A2 o8.length c2] 26));obtain⟨s0,s1,s2,f0,f1,f2⟩:=own3 (C9.blk hb);have sr:=C9.blk hb;have P3:=C9.blk I8;have Nx:wr.heap.size<=w2.heap.size:=h2.size;have Kz:w2.heap.size<=w3.heap.size:=h3.size;have KEEP:=hdq (fun(a0 a1 a2:Value) (b:Nat) (hb:b < w3.heap.size) (hne:b≠w.heap.size)=>(show((((w3.alloc (.cells #[.int .i64 k2,.int .i64 n2,.slice A2 o8.length c2] 26)).setCell ⟨w.heap.size,0,none⟩ a0).setCell ⟨w.heap.size,1,none⟩ a1).setCell ⟨w.heap.size,2,none⟩ a2).heap[b]? =w3.heap[b]?from by
          rw[Below.heap_setCell _ _ _ _ hne,Below.heap_setCell _ _ _ _ hne,Below.heap_setCell _ _ _ _ hne];exact((xr w3).alloc _).heap b hb))
         clear y0 y1 y2 hb I8 hM Cn;go_wp2_with fail
         go_roundw
         case rel=> exact⟨j+1,k2,n2,o8,A2,c2,hlt,by go_num,Bi,zi,hl2,hc2,InK.mono (fun b hb=>⟨by simp;omega,.inr (by omega)⟩) (fun b hb=> KEEP.out _ _ _ b hb.2 (by omega)) hK2,q11 (q11 (q11 sr 0 _) 1 _) 2 _,q12 (q12 (q12 P3 (by simp) _) (by simp) _) (by simp) _,(((hx.trans C9).setCell (by simp) _).setCell (by simp) _).setCell (by simp) _⟩
         case measure=> simp[intOf];omega
       · rw[if_neg hcx] at hcv
         rw[nrmC_no HQ.out (Bool.eq_false_iff.2 hcx)] at X6;rw[hcv] at M7;have HE:=hdq X6.symm;clear hcv HN hg hg2 hcx X6;go_wp2_with fail;refine S8.out.mono ?_;rintro e w2 ⟨x,rfl,Y7,h2⟩;obtain⟨B,c,rfl,hP⟩:=j82 Y7;obtain⟨y0,y1,y2,-,-,-⟩:=own3 (h2.blk hb);clear z0 z1 z2 Y7;go_wp2_with fail;refine(M7.out _ h2 _ _ hP).mono ?_;rintro e w3 ⟨r,rfl,hM,h3⟩;obtain⟨b1,b2,b3,b4,b5,rfl⟩:=hM.three';have C9:=(h2.trans h3).trans ((xr w3).alloc (.cells #[.int .i64 b1,.int .i64 b2,.slice b3 b4 b5] 26));obtain⟨s0,s1,s2,f0,f1,f2⟩:=own3 (C9.blk I8);clear y0 y1 y2;go_wp2_with fail;rw[HE.out];refine bodyPost_ret (v:= .tuple #[.agg #[.int .i64 0,.int .i64 0,.slice none 0 0],.int .i64 j,.int .i64 2]) (by simp[results,Tryz.results35,go_sem,s0,s1,s2]) rfl ⟨_,_,rfl,Made.leaf _ _ _ 0 0, ?_⟩;exact((((hx.trans C9).setCell (by simp) _).setCell (by simp) _).setCell (by simp) _)
theorem y45(t:Tr)(f:Int)(w:World)(v:Value)(j8:Lies w t v):
 Calls Tryz.prog 21 #[v,.int .i64 f] w fun e w'=> ∃r,e= .returned (.tuple #[r,.int .i64 (y80 t f).2])/\Made w w' 26 (y80 t f).1 r/\Ext w w':=by
 have HS:=hdq (fun W (hW:Ext w W)=> y151 t f W v (j8.ext hW));obtain⟨S,hS⟩: ∃S,y80 t f=S:=⟨_,rfl⟩;rw[hS] at HS⊢;obtain⟨k,n,ks⟩:=t;obtain⟨A,cap,rfl,hl,hc,hK⟩:=Lies.mk_iff.1 j8;clear hS;have hx0:=((xr w).alloc (.cells #[.int .i64 k,.int .i64 n,.slice A ks.length cap] 26)).alloc (.cells #[.int .i64 0,.int .i64 0,.slice none 0 0] 26);obtain⟨hb0,hb1,hs2⟩:=blk2 (xr ((w.alloc (.cells #[.int .i64 k,.int .i64 n,.slice A ks.length cap] 26)).alloc (.cells #[.int .i64 0,.int .i64 0,.slice none 0 0] 26)));obtain⟨wS,I2⟩: ∃x,x=(w.alloc (.cells #[.int .i64 k,.int .i64 n,.slice A ks.length cap] 26)).alloc (.cells #[.int .i64 0,.int .i64 0,.slice none 0 0] 26):=⟨_,rfl⟩;rw[<-I2] at hx0 hb0 hb1 hs2;go_enter Tryz.func21,Tryz.ntmps21;go_wp2_with fail;rw[<-I2];clear I2;refine(HS.out _ hx0).mono ?_;rintro e w3 ⟨r,s,rfl,hM,h3⟩;obtain⟨b1,b2,b3,b4,b5,rfl⟩:=hM.three';have C9:=h3.trans ((xr w3).alloc (.cells #[.int .i64 b1,.int .i64 b2,.slice b3 b4 b5] 26));obtain⟨s0,s1,s2,f0,f1,f2⟩:=own3 (C9.blk hb1);have M5:=hM.ext ((xr w3).alloc (.cells #[.int .i64 b1,.int .i64 b2,.slice b3 b4 b5] 26));have hw4:w.heap.size+2<=wS.heap.size:=by omega
 go_wp2_with fail;refine bodyPost_ret (v:= .tuple #[.agg #[.int .i64 b1,.int .i64 b2,.slice b3 b4 b5],.int .i64 S.2]) (by simp[results,Tryz.results21,go_sem,s0,s1,s2]) rfl ⟨_,rfl,Made.since (M5.after ((((q23.refl _ _).setCell (p:=⟨w.heap.size+1,0,none⟩) (by show w.heap.size+1 < _;omega) (.int .i64 b1)).setCell (p:=⟨w.heap.size+1,1,none⟩) (by show w.heap.size+1 < _;omega) (.int .i64 b2)).setCell (p:=⟨w.heap.size+1,2,none⟩) (by show w.heap.size+1 < _;omega) (.slice b3 b4 b5))) (by omega), ?_⟩;exact((((hx0.trans C9).setCell (by simp) _).setCell (by simp) _).setCell (by simp) _)
end Go.Proofs.YtbnkbepgmenblaaGreatDoor

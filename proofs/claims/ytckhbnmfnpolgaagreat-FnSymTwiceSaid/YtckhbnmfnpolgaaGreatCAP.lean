/-
  Lemmas towards the law, 16: Parse5, Places2, Tks, Parse6, Walked, Parse7, Places3, Walked2, Draws.
-/
import Derived.Test.YtckhbnmfnpolgaaGreatC00
import Derived.Test.YtckhbnmfnpolgaaGreatCAO
open Go renaming World->aL,Calls->aX,bodyPost_ret->aP,results->aR,wp_at_zero->cP,wp_at_succ->cQ,Program->eR,Value->aT,heap_alloc_new->aS
open Bool renaming and_eq_true->aW
open Go.World renaming ownsRow_nil->fW
open Go.Proofs.Tryz
set_option linter.all false
set_option maxHeartbeats 2000000
set_option maxRecDepth 100000
namespace Go.Proofs.YtckhbnmfnpolgaaGreat
open Go.RowKit
theorem Qf{d:Nat}{l:List UInt8}{a:Nat}{c:UInt8}(h:l[a]? =some c):Z5 (d+1) l a=
 (if c=35 then(n7 l (a+1) true).map (fun x=>(.mk 1 x.1 [],x.2))
 else if c=42 then(n7 l (a+1) false).map (fun x=>(.mk 2 x.1 [],x.2))
 else if c=78 then some (.mk 6 0 [],a+1)
 else if c=48 then some (.mk 7 0 [],a+1)
 else if c=43 then one 8 (Z5 d l (a+1))
 else if c=33 then one 11 (Z5 d l (a+1))
 else if c=94 then one 15 (Z5 d l (a+1))
 else if c=95 then one 16 (Z5 d l (a+1))
 else if c=40 then Vx (Z5 d l) l (a+1)
 else if c=91 then VD (Z5 d l) l (a+1)
 else blk (Z5 d l) l a c):=by
 conv=> lhs;unfold Z5
 rw[h]
theorem mD{d:Nat}{l:List UInt8}{a:Nat}(h:l[a]? =none):Z5 d l a=none:=by
 cases d with
 |zero=> rfl
 |succ d=>
  unfold Z5;rw[h]
theorem DC{l:List UInt8}{a:Nat}{two:Bool}{x:Int×Nat}(h:n7 l a two=some x):x.2<=l.length:=by
 unfold n7 at h;cases b:l[a]?with
 |none=> rw[b] at h;cases h
 |some c=>
  have f:a < l.length:=by
   rcases Nat.lt_or_ge a l.length with g|g
   · exact g
   · rw[List.getElem?_eq_none g] at b;cases b
  rw[b] at h;simp only at h
  split at h
  · split at h
    · cases e:l[a+1]?with
      |none=> rw[e] at h;cases h;exact f
      |some d=>
       have i:a+1 < l.length:=by
        rcases Nat.lt_or_ge (a+1) l.length with g|g
        · exact g
        · rw[List.getElem?_eq_none g] at e;cases e
       rw[e] at h;simp only at h
       split at h
       · split at h
         · cases h
         · cases h;exact i
       · cases h;exact f
    · cases h;exact f
  · cases h
theorem zI(d:Nat)(hd:d<=30)(s:ByteArray)(a:Nat)(w:aL)(hs:s.size<=1000000000)(m:a < s.size)(hc:s[a]=35):
 aX prog 176 #[.string s,m0 a,m0 ((d:Int)+1)] w (Ya w.heap.size w s.size (Z5 (d+1) s.data.toList a)):=by
 have j:Z5 (d+1) s.data.toList a=(n7 s.data.toList (a+1) true).map (fun x=>(.mk 1 x.1 [],x.2)):=by rw[Qf (Od m hc)];rfl
 rw[j];have hN:=fun W=> OI s (a+1) W hs (by omega)
 have b: ∀x,n7 s.data.toList (a+1) true=some x->x.2<=s.size:=fun x h=> by have:=DC h;simpa using this
 obtain⟨S,hS⟩: ∃S,S=n7 s.data.toList (a+1) true:=⟨_,rfl⟩;rw[<-hS] at hN b⊢;rw[show((a+1:Nat):Int)=(a:Int)+1 by omega] at hN;have p:=hdq hN;have n:=hdq b;clear j hN b hS;go_enter func176,ntmps176;go_wp2_with fail;refine(p.out _).mono ?_;rintro e B ⟨rfl,rfl⟩;obtain⟨x,hx⟩: ∃x,x=(pb S).1:=⟨_,rfl⟩;obtain⟨f,i⟩: ∃f,f=(pb S).2:=⟨_,rfl⟩;rw[<-hx,<-i];have l:=hdq hx;have k:=hdq i;clear hx i;go_wp2_with fail;refine(q15 _ 1 x).mono ?_;rintro e u ⟨rfl,g⟩;obtain⟨r,t,q,D,C,A⟩:=own3 g.newBlk;have o:=g.size_alloc;have hE:=((xr w).alloc (H0 0 0 none 0 0)).trans g;go_wp2_with fail;refine aP (v:= .tuple #[M0 1 x none 0 0,m0 f]) (by simp[aR,results176,go_sem,r,t,q]) rfl ⟨.mk 1 x [],_,f,rfl,Y1.leaf _ _ _ _,((hE.setCell (by simp) _).setCell (by simp) _).setCell (by simp) _, ?_, ?_⟩
 · intro z c
   cases S with
   |none=> cases c
   |some y=>
    cases c
    exact⟨by rw[l.out];rfl,by rw[k.out];rfl,n.out y rfl⟩
 · intro c
   cases S with
   |none=> rw[k.out];rfl
   |some y=> cases c
theorem cJ(d:Nat)(hd:d<=30)(s:ByteArray)(a:Nat)(w:aL)(hs:s.size<=1000000000)(m:a < s.size)(hc:s[a]=42):
 aX prog 176 #[.string s,m0 a,m0 ((d:Int)+1)] w (Ya w.heap.size w s.size (Z5 (d+1) s.data.toList a)):=by
 have j:Z5 (d+1) s.data.toList a=(n7 s.data.toList (a+1) false).map (fun x=>(.mk 2 x.1 [],x.2)):=by rw[Qf (Od m hc)];rfl
 rw[j];have hN:=fun W=> xJ s (a+1) W hs (by omega)
 have b: ∀x,n7 s.data.toList (a+1) false=some x->x.2<=s.size:=fun x h=> by have:=DC h;simpa using this
 obtain⟨S,hS⟩: ∃S,S=n7 s.data.toList (a+1) false:=⟨_,rfl⟩;rw[<-hS] at hN b⊢;rw[show((a+1:Nat):Int)=(a:Int)+1 by omega] at hN;have p:=hdq hN;have n:=hdq b;clear j hN b hS;go_enter func176,ntmps176;go_wp2_with fail;refine(p.out _).mono ?_;rintro e B ⟨rfl,rfl⟩;obtain⟨x,hx⟩: ∃x,x=(pb S).1:=⟨_,rfl⟩;obtain⟨f,i⟩: ∃f,f=(pb S).2:=⟨_,rfl⟩;rw[<-hx,<-i];have l:=hdq hx;have k:=hdq i;clear hx i;go_wp2_with fail;refine(q15 _ 2 x).mono ?_;rintro e u ⟨rfl,g⟩;obtain⟨r,t,q,D,C,A⟩:=own3 g.newBlk;have o:=g.size_alloc;have hE:=((xr w).alloc (H0 0 0 none 0 0)).trans g;go_wp2_with fail;refine aP (v:= .tuple #[M0 2 x none 0 0,m0 f]) (by simp[aR,results176,go_sem,r,t,q]) rfl ⟨.mk 2 x [],_,f,rfl,Y1.leaf _ _ _ _,((hE.setCell (by simp) _).setCell (by simp) _).setCell (by simp) _, ?_, ?_⟩
 · intro z c
   cases S with
   |none=> cases c
   |some y=>
    cases c
    exact⟨by rw[l.out];rfl,by rw[k.out];rfl,n.out y rfl⟩
 · intro c
   cases S with
   |none=> rw[k.out];rfl
   |some y=> cases c
theorem wH(d:Nat)(hd:d<=30)(s:ByteArray)(a:Nat)(w:aL)(hs:s.size<=1000000000)(f:a < s.size)(hc:s[a]=78):
 aX prog 176 #[.string s,m0 a,m0 ((d:Int)+1)] w (Ya w.heap.size w s.size (Z5 (d+1) s.data.toList a)):=by
 have HR:=hdq (show Z5 (d+1) s.data.toList a=some (.mk 6 0 [],a+1) from by rw[Qf (Od f hc)];rfl);generalize Z5 (d+1) s.data.toList a=R at HR⊢;go_enter func176,ntmps176;go_wp2_with fail;refine(q15 _ 6 0).mono ?_;rintro e l ⟨rfl,c⟩;obtain⟨j,k,i,o,n,m⟩:=own3 c.newBlk;have g:=c.size_alloc;have hE:=((xr w).alloc (H0 0 0 none 0 0)).trans c;go_wp2_with fail;refine aP (v:= .tuple #[M0 6 0 none 0 0,m0 ((a:Int)+1)]) (by simp[aR,results176,go_sem,j,k,i]) rfl ⟨.mk 6 0 [],_,_,rfl,Y1.leaf _ _ _ _,((hE.setCell (by simp) _).setCell (by simp) _).setCell (by simp) _, ?_, ?_⟩
 · intro z b
   rw[HR.out] at b;cases b
   exact⟨rfl,by simp,f⟩
 · intro b
   rw[HR.out] at b;cases b
theorem kG(d:Nat)(hd:d<=30)(s:ByteArray)(a:Nat)(w:aL)(hs:s.size<=1000000000)(f:a < s.size)(hc:s[a]=48):
 aX prog 176 #[.string s,m0 a,m0 ((d:Int)+1)] w (Ya w.heap.size w s.size (Z5 (d+1) s.data.toList a)):=by
 have HR:=hdq (show Z5 (d+1) s.data.toList a=some (.mk 7 0 [],a+1) from by rw[Qf (Od f hc)];rfl);generalize Z5 (d+1) s.data.toList a=R at HR⊢;go_enter func176,ntmps176;go_wp2_with fail;refine(q15 _ 7 0).mono ?_;rintro e l ⟨rfl,c⟩;obtain⟨j,k,i,o,n,m⟩:=own3 c.newBlk;have g:=c.size_alloc;have hE:=((xr w).alloc (H0 0 0 none 0 0)).trans c;go_wp2_with fail;refine aP (v:= .tuple #[M0 7 0 none 0 0,m0 ((a:Int)+1)]) (by simp[aR,results176,go_sem,j,k,i]) rfl ⟨.mk 7 0 [],_,_,rfl,Y1.leaf _ _ _ _,((hE.setCell (by simp) _).setCell (by simp) _).setCell (by simp) _, ?_, ?_⟩
 · intro z b
   rw[HR.out] at b;cases b
   exact⟨rfl,by simp,f⟩
 · intro b
   rw[HR.out] at b;cases b
theorem Ya.on{B:Nat}{w:aL}{size:Nat}{o:Option (Tr×Nat)}{e:Ending}{b:aL}(h:Ya B w size o e b): ∃(t:Tr) (k n:Int) (A:Option Addr) (l c:Nat) (a:Int),e= .returned (.tuple #[M0 k n A l c,m0 a])/\Y1 B b t (M0 k n A l c)/\Ext w b/\Hid ((∀x,o=some x->t=x.1/\a=x.2/\x.2<=size)/\(o=none->a= -1)):=by
 obtain⟨t,u,a,rfl,hF,d,q⟩:=h;obtain⟨k,n,A,l,c,rfl⟩:=hF.three;exact⟨t,k,n,A,l,c,a,rfl,hF,d,hdq q⟩
theorem jD(d:Nat)(ih:ad d)(s:ByteArray)(a:Nat)(w:aL)(hs:s.size<=1000000000)(b:a < s.size):
 aX prog 194 #[.string s,m0 ((a:Int)+1),m0 d] w (Ya w.heap.size w s.size (Vx (Z5 d s.data.toList) s.data.toList (a+1))):=by
 have:=eF d ih s (a+1) w hs b
 rwa [show((a+1:Nat):Int)=(a:Int)+1 by omega] at this
theorem rJ(d:Nat)(hd:d<=30)(ih:ad d)(s:ByteArray)(a:Nat)(w:aL)(hs:s.size<=1000000000)(j:a < s.size)(hc:s[a]=43):
 aX prog 176 #[.string s,m0 a,m0 ((d:Int)+1)] w (Ya w.heap.size w s.size (Z5 (d+1) s.data.toList a)):=by
 have r:=hdq (fun W=> KF d ih s a W hs j hc hd);have g:=Qf (d:=d) (Od j hc);rw[g];clear g
 repeat rw[if_neg (by decide)]
 try rw[if_pos rfl]
 clear ih;go_enter func176,ntmps176;go_wp2_with fail;refine(r.out _).mono ?_;intro e q l;obtain⟨t,i,f,m,n,p,k,rfl,hF,c,o⟩:=l.on;obtain⟨y,z,x,C,B,A⟩:=own3 c.newBlk;have u:=c.size_alloc;have hE:=((xr w).alloc (H0 0 0 none 0 0)).trans c;have b:Y1 (w.heap.size+1) q t (M0 i f m n p):=by simpa using hF
 clear l hF;go_wp2_with fail;exact aP (v:= .tuple #[M0 i f m n p,m0 k]) (by simp[aR,results176,go_sem,y,z,x]) rfl ⟨t,_,k,rfl,(((b.set (by simp) _).set (by simp) _).set (by simp) _).since (by omega),((hE.setCell (by simp) _).setCell (by simp) _).setCell (by simp) _,o.out.1,o.out.2⟩
theorem vH(d:Nat)(hd:d<=30)(ih:ad d)(s:ByteArray)(a:Nat)(w:aL)(hs:s.size<=1000000000)(j:a < s.size)(hc:s[a]=33):
 aX prog 176 #[.string s,m0 a,m0 ((d:Int)+1)] w (Ya w.heap.size w s.size (Z5 (d+1) s.data.toList a)):=by
 have r:=hdq (fun W=> UE d ih s a W hs j hc hd);have g:=Qf (d:=d) (Od j hc);rw[g];clear g
 repeat rw[if_neg (by decide)]
 try rw[if_pos rfl]
 clear ih;go_enter func176,ntmps176;go_wp2_with fail;refine(r.out _).mono ?_;intro e q l;obtain⟨t,i,f,m,n,p,k,rfl,hF,c,o⟩:=l.on;obtain⟨y,z,x,C,B,A⟩:=own3 c.newBlk;have u:=c.size_alloc;have hE:=((xr w).alloc (H0 0 0 none 0 0)).trans c;have b:Y1 (w.heap.size+1) q t (M0 i f m n p):=by simpa using hF
 clear l hF;go_wp2_with fail;exact aP (v:= .tuple #[M0 i f m n p,m0 k]) (by simp[aR,results176,go_sem,y,z,x]) rfl ⟨t,_,k,rfl,(((b.set (by simp) _).set (by simp) _).set (by simp) _).since (by omega),((hE.setCell (by simp) _).setCell (by simp) _).setCell (by simp) _,o.out.1,o.out.2⟩
theorem mJ(d:Nat)(hd:d<=30)(ih:ad d)(s:ByteArray)(a:Nat)(w:aL)(hs:s.size<=1000000000)(j:a < s.size)(hc:s[a]=94):
 aX prog 176 #[.string s,m0 a,m0 ((d:Int)+1)] w (Ya w.heap.size w s.size (Z5 (d+1) s.data.toList a)):=by
 have r:=hdq (fun W=> PG d ih s a W hs j hc hd);have g:=Qf (d:=d) (Od j hc);rw[g];clear g
 repeat rw[if_neg (by decide)]
 try rw[if_pos rfl]
 clear ih;go_enter func176,ntmps176;go_wp2_with fail;refine(r.out _).mono ?_;intro e q l;obtain⟨t,i,f,m,n,p,k,rfl,hF,c,o⟩:=l.on;obtain⟨y,z,x,C,B,A⟩:=own3 c.newBlk;have u:=c.size_alloc;have hE:=((xr w).alloc (H0 0 0 none 0 0)).trans c;have b:Y1 (w.heap.size+1) q t (M0 i f m n p):=by simpa using hF
 clear l hF;go_wp2_with fail;exact aP (v:= .tuple #[M0 i f m n p,m0 k]) (by simp[aR,results176,go_sem,y,z,x]) rfl ⟨t,_,k,rfl,(((b.set (by simp) _).set (by simp) _).set (by simp) _).since (by omega),((hE.setCell (by simp) _).setCell (by simp) _).setCell (by simp) _,o.out.1,o.out.2⟩
theorem WH(d:Nat)(hd:d<=30)(ih:ad d)(s:ByteArray)(a:Nat)(w:aL)(hs:s.size<=1000000000)(j:a < s.size)(hc:s[a]=95):
 aX prog 176 #[.string s,m0 a,m0 ((d:Int)+1)] w (Ya w.heap.size w s.size (Z5 (d+1) s.data.toList a)):=by
 have r:=hdq (fun W=> GF d ih s a W hs j hc hd);have g:=Qf (d:=d) (Od j hc);rw[g];clear g
 repeat rw[if_neg (by decide)]
 try rw[if_pos rfl]
 clear ih;go_enter func176,ntmps176;go_wp2_with fail;refine(r.out _).mono ?_;intro e q l;obtain⟨t,i,f,m,n,p,k,rfl,hF,c,o⟩:=l.on;obtain⟨y,z,x,C,B,A⟩:=own3 c.newBlk;have u:=c.size_alloc;have hE:=((xr w).alloc (H0 0 0 none 0 0)).trans c;have b:Y1 (w.heap.size+1) q t (M0 i f m n p):=by simpa using hF
 clear l hF;go_wp2_with fail;exact aP (v:= .tuple #[M0 i f m n p,m0 k]) (by simp[aR,results176,go_sem,y,z,x]) rfl ⟨t,_,k,rfl,(((b.set (by simp) _).set (by simp) _).set (by simp) _).since (by omega),((hE.setCell (by simp) _).setCell (by simp) _).setCell (by simp) _,o.out.1,o.out.2⟩
theorem aJ(d:Nat)(hd:d<=30)(ih:ad d)(s:ByteArray)(a:Nat)(w:aL)(hs:s.size<=1000000000)(j:a < s.size)(hc:s[a]=60):
 aX prog 176 #[.string s,m0 a,m0 ((d:Int)+1)] w (Ya w.heap.size w s.size (Z5 (d+1) s.data.toList a)):=by
 have r:=hdq (fun W=> sH d hd ih s a W hs j hc);have g:=Qf (d:=d) (Od j hc);rw[g];clear g
 repeat rw[if_neg (by decide)]
 try rw[if_pos rfl]
 clear ih;go_enter func176,ntmps176;go_wp2_with fail;refine(r.out _).mono ?_;intro e q l;obtain⟨t,i,f,m,n,p,k,rfl,hF,c,o⟩:=l.on;obtain⟨y,z,x,C,B,A⟩:=own3 c.newBlk;have u:=c.size_alloc;have hE:=((xr w).alloc (H0 0 0 none 0 0)).trans c;have b:Y1 (w.heap.size+1) q t (M0 i f m n p):=by simpa using hF
 clear l hF;go_wp2_with fail;exact aP (v:= .tuple #[M0 i f m n p,m0 k]) (by simp[aR,results176,go_sem,y,z,x]) rfl ⟨t,_,k,rfl,(((b.set (by simp) _).set (by simp) _).set (by simp) _).since (by omega),((hE.setCell (by simp) _).setCell (by simp) _).setCell (by simp) _,o.out.1,o.out.2⟩
theorem iI(d:Nat)(hd:d<=30)(ih:ad d)(s:ByteArray)(a:Nat)(w:aL)(hs:s.size<=1000000000)(j:a < s.size)(hc:s[a]=123):
 aX prog 176 #[.string s,m0 a,m0 ((d:Int)+1)] w (Ya w.heap.size w s.size (Z5 (d+1) s.data.toList a)):=by
 have r:=hdq (fun W=> sF d hd ih s a W hs j hc);have g:=Qf (d:=d) (Od j hc);rw[g];clear g
 repeat rw[if_neg (by decide)]
 try rw[if_pos rfl]
 clear ih;go_enter func176,ntmps176;go_wp2_with fail;refine(r.out _).mono ?_;intro e q l;obtain⟨t,i,f,m,n,p,k,rfl,hF,c,o⟩:=l.on;obtain⟨y,z,x,C,B,A⟩:=own3 c.newBlk;have u:=c.size_alloc;have hE:=((xr w).alloc (H0 0 0 none 0 0)).trans c;have b:Y1 (w.heap.size+1) q t (M0 i f m n p):=by simpa using hF
 clear l hF;go_wp2_with fail;exact aP (v:= .tuple #[M0 i f m n p,m0 k]) (by simp[aR,results176,go_sem,y,z,x]) rfl ⟨t,_,k,rfl,(((b.set (by simp) _).set (by simp) _).set (by simp) _).since (by omega),((hE.setCell (by simp) _).setCell (by simp) _).setCell (by simp) _,o.out.1,o.out.2⟩
theorem SF(d:Nat)(hd:d<=30)(ih:ad d)(s:ByteArray)(a:Nat)(w:aL)(hs:s.size<=1000000000)(j:a < s.size)(hc:s[a]=124):
 aX prog 176 #[.string s,m0 a,m0 ((d:Int)+1)] w (Ya w.heap.size w s.size (Z5 (d+1) s.data.toList a)):=by
 have r:=hdq (fun W=> AF d hd ih s a W hs j hc);have g:=Qf (d:=d) (Od j hc);rw[g];clear g
 repeat rw[if_neg (by decide)]
 try rw[if_pos rfl]
 clear ih;go_enter func176,ntmps176;go_wp2_with fail;refine(r.out _).mono ?_;intro e q l;obtain⟨t,i,f,m,n,p,k,rfl,hF,c,o⟩:=l.on;obtain⟨y,z,x,C,B,A⟩:=own3 c.newBlk;have u:=c.size_alloc;have hE:=((xr w).alloc (H0 0 0 none 0 0)).trans c;have b:Y1 (w.heap.size+1) q t (M0 i f m n p):=by simpa using hF
 clear l hF;go_wp2_with fail;exact aP (v:= .tuple #[M0 i f m n p,m0 k]) (by simp[aR,results176,go_sem,y,z,x]) rfl ⟨t,_,k,rfl,(((b.set (by simp) _).set (by simp) _).set (by simp) _).since (by omega),((hE.setCell (by simp) _).setCell (by simp) _).setCell (by simp) _,o.out.1,o.out.2⟩
theorem qJ(d:Nat)(hd:d<=30)(ih:ad d)(s:ByteArray)(a:Nat)(w:aL)(hs:s.size<=1000000000)(j:a < s.size)(hc:s[a]=64):
 aX prog 176 #[.string s,m0 a,m0 ((d:Int)+1)] w (Ya w.heap.size w s.size (Z5 (d+1) s.data.toList a)):=by
 have r:=hdq (fun W=> KI d hd ih s a W hs j hc);have g:=Qf (d:=d) (Od j hc);rw[g];clear g
 repeat rw[if_neg (by decide)]
 try rw[if_pos rfl]
 clear ih;go_enter func176,ntmps176;go_wp2_with fail;refine(r.out _).mono ?_;intro e q l;obtain⟨t,i,f,m,n,p,k,rfl,hF,c,o⟩:=l.on;obtain⟨y,z,x,C,B,A⟩:=own3 c.newBlk;have u:=c.size_alloc;have hE:=((xr w).alloc (H0 0 0 none 0 0)).trans c;have b:Y1 (w.heap.size+1) q t (M0 i f m n p):=by simpa using hF
 clear l hF;go_wp2_with fail;exact aP (v:= .tuple #[M0 i f m n p,m0 k]) (by simp[aR,results176,go_sem,y,z,x]) rfl ⟨t,_,k,rfl,(((b.set (by simp) _).set (by simp) _).set (by simp) _).since (by omega),((hE.setCell (by simp) _).setCell (by simp) _).setCell (by simp) _,o.out.1,o.out.2⟩
theorem EI(d:Nat)(hd:d<=30)(ih:ad d)(s:ByteArray)(a:Nat)(w:aL)(hs:s.size<=1000000000)(j:a < s.size)(hc:s[a]=40):
 aX prog 176 #[.string s,m0 a,m0 ((d:Int)+1)] w (Ya w.heap.size w s.size (Z5 (d+1) s.data.toList a)):=by
 have r:=hdq (fun W=> jD d ih s a W hs j);have g:=Qf (d:=d) (Od j hc);rw[g];clear g
 repeat rw[if_neg (by decide)]
 try rw[if_pos rfl]
 clear ih;go_enter func176,ntmps176;go_wp2_with fail;refine(r.out _).mono ?_;intro e q l;obtain⟨t,i,f,m,n,p,k,rfl,hF,c,o⟩:=l.on;obtain⟨y,z,x,C,B,A⟩:=own3 c.newBlk;have u:=c.size_alloc;have hE:=((xr w).alloc (H0 0 0 none 0 0)).trans c;have b:Y1 (w.heap.size+1) q t (M0 i f m n p):=by simpa using hF
 clear l hF;go_wp2_with fail;exact aP (v:= .tuple #[M0 i f m n p,m0 k]) (by simp[aR,results176,go_sem,y,z,x]) rfl ⟨t,_,k,rfl,(((b.set (by simp) _).set (by simp) _).set (by simp) _).since (by omega),((hE.setCell (by simp) _).setCell (by simp) _).setCell (by simp) _,o.out.1,o.out.2⟩
end Go.Proofs.YtckhbnmfnpolgaaGreat
namespace Go.Proofs.YtckhbnmfnpolgaaGreat
open Go.RowKit
attribute [local go_sem ↓] cP cQ
theorem Ki{t:Tr}(h:j0 D0 t=true):cnt t<=400/\P0 D0 t 30=true:=by
 unfold j0 at h;rw[aW] at h;exact⟨of_decide_eq_true h.2,h.1⟩
end Go.Proofs.YtckhbnmfnpolgaaGreat
namespace Go.Proofs.YtckhbnmfnpolgaaGreat
open Go Go.RowKit
def ys(P:eR)(ops:Array Oper)(Q:Exit->Act->aL->Prop)(S:aL->Prop)(f:Nat)(l:Array Bool)(w:aL):List Nat->Act->Prop
 | [],a=> wpAnyH P .any ops Q S f l a w
 |i::is,a=> ∃o v,ops[i]? =some o/\YieldsIf P ops S o v a/\ys P ops Q S f l w is (a.put o.dst v)
def Sm(ops:Array Oper):Array Bool->List Nat->Bool
 |_, []=> true
 |l,i::is=>((ops[i]?).bind (·.dst)).isSome && Region.free .any ops l i &&(Region.ready .any ops l).contains i && Sm ops (l.setIfInBounds i true) is
theorem ys.run{P:eR}{ops:Array Oper}{Q:Exit->Act->aL->Prop}{S:aL->Prop}{f:Nat}{lT:Array Bool}{w:aL}(hn:Region.noSelect ops=true)(e: ∀d v c a w,Q (.panic c) (a.put (some d) v) w->Q (.panic c) a w)(hS:S w):
 ∀(is:List Nat) (l:Array Bool) (a:Act),Sm ops l is=true->is.foldl (fun l i=> l.setIfInBounds i true) l=lT->ys P ops Q S f lT w is a->wpAnyH P .any ops Q S (f+is.length) l a w
 | [],l,a,_,hl,h=> by subst hl;exact h
 |i::is,l,a,b,hl,h=> by
  obtain⟨o,v,g,k,j⟩:=h;unfold Sm at b;simp only[aW] at b;obtain⟨d,hd⟩:=Option.isSome_iff_exists.1 b.1.1.1;rw[g] at hd;exact wpAnyH_take g hn b.1.1.2 b.1.2 (fun c a w=> by rw[show o.dst=some d from hd];exact e _ _ c a w) k hS (ys.run hn e hS is _ _ b.2 hl j)
theorem O2{P:eR}{ops:Array Oper}{Q:Exit->Act->aL->Prop}{S:aL->Prop}{w:aL}{l:Array Bool}{a:Act}{fuel:Nat}(is:List Nat)(f:Nat)(hc:(Region.noSelect ops && Sm ops l is && fuel==f+is.length)=true)(hS:S w)
 (b: ∀d v c a w,Q (.panic c) (a.put (some d) v) w->Q (.panic c) a w) (h:ys P ops Q S f (is.foldl (fun l i=> l.setIfInBounds i true) l) w is a):wpAnyH P .any ops Q S fuel l a w:=by
 simp only[aW,beq_iff_eq] at hc;obtain⟨⟨g,e⟩,rfl⟩:=hc;exact ys.run g b hS is l a e rfl h
theorem tk{P:eR}{ops:Array Oper}{Q:Exit->Act->aL->Prop}{S:aL->Prop}{f:Nat}{l:Array Bool}{w:aL}{i:Nat}{is:List Nat}{a:Act}{o:Oper}{v:aT}(b:ops[i]? =some o)(c:Region.wanted o (yielded ops a.tmps)=true)(d: ∀w,S w->(execOp a.eval o).run P w= .ok (.value v) w)
 (h:ys P ops Q S f l w is (a.put o.dst v)):ys P ops Q S f l w (i::is) a:=⟨o,v,b,.inl ⟨c,d⟩,h⟩
theorem O0{P:eR}{ops:Array Oper}{Q:Exit->Act->aL->Prop}{S:aL->Prop}{w:aL}{l:Array Bool}{a:Act}{f:Nat}{o:Oper}(i:Nat)(hr:Region.ready .any ops l= [i])(b:ops[i]? =some o)(c:o.guard=none)
 (h: ∀K:Act->aL->Prop,Shut (∀a w,S w->(S w->wpAnyH P .any ops Q S f (l.setIfInBounds i true) a w)->K a w)->o.wp P a w K Q):wpAnyH P .any ops Q S (f+1) l a w:=by
 refine wpAnyH_ready hr (by simp) (AllReadyH.cons b (fun K hK=> ?_) AllReadyH.nil);rw[if_pos (by unfold Region.wanted;rw[c])];exact h K hK
theorem N2:(∀(a:Act) (d:Tmp) (v:aT),a.put (some d) v={a with tmps:=a.tmps.setIfInBounds d v})/\(∀(a:Act) (v:aT),a.put none v=a)/\(∀(l:List aT) (i:Nat) (x:aT),l.toArray.setIfInBounds i x=(l.set i x).toArray)/\(∀(l:List Oper) (i:Nat) (h:i < l.toArray.size),l.toArray[i]'h=l[i]'(by simpa using h))/\(∀(x y:aT) (l:List aT),(x::l).set 0 y=y::l)/\(∀(x y:aT) (l:List aT) (n:Nat),(x::l).set (n+1) y=x::l.set n y)/\(∀(x:Oper) (l:List Oper),(x::l)[0]=x)/\ ∀(x:Oper) (l:List Oper) (i:Nat) (h:i+1 <(x::l).length),(x::l)[i+1]=l[i]'(by simpa using h):=
 ⟨fun _ _ _=> rfl,fun _ _=> rfl,fun _ _ _=> by simp,fun _ _ _=> by simp,fun _ _ _=> rfl,fun _ _ _ _=> rfl,fun _ _=> rfl,fun _ _ _ _=> rfl⟩
end Go.Proofs.YtckhbnmfnpolgaaGreat
namespace Go.Proofs.YtckhbnmfnpolgaaGreat
open Go.RowKit
theorem ZI(d:Nat)(hd:d<=30)(ih:ad d)(s:ByteArray)(a:Nat)(w:aL)(hs:s.size<=1000000000)(S:a < s.size)(hc:s[a]=91):
 aX prog 176 #[.string s,m0 a,m0 ((d:Int)+1)] w (Ya w.heap.size w s.size (Z5 (d+1) s.data.toList a)):=by
 have z:Z5 (d+1) s.data.toList a=VD (Z5 d s.data.toList) s.data.toList (a+1):=by rw[Qf (Od S hc)];rfl
 rw[z];clear z;have T:=hdq (fun(a:Nat) (A:Int) (hA:A=a) W (S:a<=s.size+2)=>(show aX prog 176 #[.string s,m0 A,m0 d] W (Ya W.heap.size W s.size (Z5 d s.data.toList a)) from by subst hA;exact ih s a W hs S));obtain⟨F,hF⟩: ∃F,F=Z5 d s.data.toList:=⟨_,rfl⟩;rw[<-hF] at T⊢;have fe:VD F s.data.toList (a+1)=match F (a+1) with
  |none=> none
  |some (x,b)=> if s.data.toList[b]? =some 93 then(match F (b+1) with|none=> none|some (y,c)=> some (.mk 4 0 [x,y],c)) else none:=rfl
 obtain⟨R,hR⟩: ∃R,R=VD F s.data.toList (a+1):=⟨_,rfl⟩;rw[<-hR] at fe⊢;have HD:=hdq fe;clear hR ih hF fe;go_enter func176,ntmps176;go_wp2_with fail;refine(T.out (a+1) _ (by omega) _ (by omega)).mono ?_;rintro e K ⟨t,u,nx,rfl,hF,e1,p,o⟩;obtain⟨H,n0,J,I,G,rfl⟩:=hF.three;have hb:=e1.newBlk;have n:=e1.size_alloc;have N:=((xr w).alloc (H0 0 0 none 0 0)).trans e1;have hx1:=N.trans ((xr K).alloc (H0 H n0 J I G));have W4:=hF.ext ((xr K).alloc (H0 H n0 J I G));simp only[World.size_alloc] at W4;have l:=((xr K).alloc (H0 H n0 J I G)).blk hb;have Gy:=aS K (H0 H n0 J I G);cases f:F (a+1) with
 |none=>
  obtain rfl:=o f;have Q:=HD.out;rw[f] at Q;have HR:=hdq Q;obtain⟨r,C,q,f0,f1,f2⟩:=own3 l;clear p o Q f n;go_wp2_with fail;exact aP (v:= .tuple #[M0 0 0 none 0 0,m0 (-1)]) (by simp[aR,results176,go_sem,r,C,q]) rfl (qr _ _ _ _ _ HR.out (((hx1.setCell (by simp) _).setCell (by simp) _).setCell (by simp) _))
 |some y=>
  obtain⟨x,b⟩:=y;obtain⟨h1,h2,h3⟩:=p _ f;simp only at h1 h2 h3;have k:=HD.out;rw[f] at k;simp only at k;subst h1 h2;clear p o f;have t0:decide ((b:Int) < 0)=false:=decide_eq_false (by omega);by_cases Y:b < s.size
  · obtain⟨c,V⟩: ∃c,s[b]=c:=⟨_,rfl⟩
    rw[Od Y V] at k;have hbz:(b:Int) <(s.size:Int):=by omega
    have t1:decide ((s.size:Int)<=(b:Int))=false:=decide_eq_false (by omega);obtain⟨m,hm⟩: ∃m,c.toNat=m:=⟨_,rfl⟩;by_cases i:c=93
    · have Hs:m=93:=by rw[<-hm,i];rfl
      rw[if_pos (by rw[i])] at k;subst Hs;have Da:=hdq k;clear k i;go_wp2_with fail;refine(T.out (b+1) _ (by omega) _ (by omega)).mono ?_;rintro e D ⟨t',u',Ge,rfl,B,L,p,o⟩;obtain⟨O,M,X,U,c1,rfl⟩:=B.three;have Z:=L.size_alloc;have E:=L.trans ((xr D).alloc (H0 O M X U c1));have hb2:=E.blk l;have xf:=E.blk Gy;have U6:=aS D (H0 O M X U c1);obtain⟨x0,x1,x2,-,-,-⟩:=own3 xf;have hx2:=hx1.trans E;have P:=W4.ext E;have xk:=(B.ext ((xr D).alloc (H0 O M X U c1))).since (show w.heap.size+1<=_ by simp;omega);have ap:=hdq p;have av:=hdq o;clear p o Z;go_wp2_with fail;refine(Sw (w.heap.size+1) _ 4 _ 2 [t,t'] (by intro h;cases h) (xb.two (g:=D.heap.size+1) (e:=25) P xk (by have:=L.size_alloc;simp;omega) (by simp)) (by have:=L.size_alloc;simp;omega) (by simp)).mono ?_;rintro e w3 ⟨v,rfl,hN,e3⟩;obtain⟨k3,n3,A3,l3,c3,rfl⟩:=hN.three;obtain⟨z0,z1,z2,g0,g1,g2⟩:=own3 (e3.blk (((xr _).alloc _).blk hb2));have hx3:=hx2.trans (((xr _).alloc _).trans e3);clear x0 x1 x2;go_wp2_with fail;refine aP (v:= .tuple #[M0 k3 n3 A3 l3 c3,m0 Ge]) (by simp[aR,results176,go_sem,z0,z1,z2]) rfl ⟨_,_,_,rfl,(((hN.set (by simp) _).set (by simp) _).set (by simp) _).since (by omega),((hx3.setCell (by simp) _).setCell (by simp) _).setCell (by simp) _, ?_, ?_⟩
      · intro x hx
        rw[Da.out] at hx;cases j:F (b+1) with
        |none=> rw[j] at hx;cases hx
        |some y2=>
         rw[j] at hx;cases hx
         obtain⟨g1,g2,g3⟩:=ap.out _ j;exact⟨by rw[g1],g2,g3⟩
      · intro hx
        rw[Da.out] at hx;cases j:F (b+1) with
        |none=> exact av.out j
        |some y2=> rw[j] at hx;cases hx
    · rw[if_neg (by intro h;cases h;exact i rfl)] at k
      have HR:=hdq k;have t7:((m:Int) !=93)=true:=by rw[bne_iff_ne];intro h;exact i (UInt8.toNat_inj.1 (by rw[hm];simp;omega))
      obtain⟨r,C,q,f0,f1,f2⟩:=own3 l;clear k i n;go_wp2_with fail;exact aP (v:= .tuple #[M0 0 0 none 0 0,m0 (-1)]) (by simp[aR,results176,go_sem,r,C,q]) rfl (qr _ _ _ _ _ HR.out (((hx1.setCell (by simp) _).setCell (by simp) _).setCell (by simp) _))
  · rw[Bn s (by omega),if_neg (by simp)] at k
    have HR:=hdq k;have t1:decide ((s.size:Int)<=(b:Int))=true:=decide_eq_true (by omega);obtain⟨r,C,q,f0,f1,f2⟩:=own3 l;clear k n;go_wp2_with fail;exact aP (v:= .tuple #[M0 0 0 none 0 0,m0 (-1)]) (by simp[aR,results176,go_sem,r,C,q]) rfl (qr _ _ _ _ _ HR.out (((hx1.setCell (by simp) _).setCell (by simp) _).setCell (by simp) _))
theorem Xl{c:UInt8}{p:Nat}{v:UInt8}(a:c.toNat=p)(h:c≠v):((p:Int)==(v.toNat:Int))=false:=by
 rw[beq_eq_false_iff_ne];intro e;exact h (UInt8.toNat_inj.1 (by rw[a];omega))
theorem FJ(d:Nat)(hd:d<=30)(s:ByteArray)(a:Nat)(w:aL)(hs:s.size<=1000000000)(y:a < s.size)(c:UInt8)(hc:s[a]=c)
 (r:c≠35) (m:c≠42) (j:c≠78) (k:c≠48) (g:c≠43) (q:c≠33) (o:c≠94) (h8:c≠95) (i:c≠40) (f:c≠91) (hk:Qi c=0):
 aX prog 176 #[.string s,m0 a,m0 ((d:Int)+1)] w (Ya w.heap.size w s.size (Z5 (d+1) s.data.toList a)):=by
 have I:=hdq (fun W=> XH d hd s a W hs y c hc hk);have l:=Qf (d:=d) (Od y hc);rw[if_neg r,if_neg m,if_neg j,if_neg k,if_neg g,if_neg q,if_neg o,if_neg h8,if_neg i,if_neg f] at l;rw[l];obtain⟨p,b⟩: ∃p,c.toNat=p:=⟨_,rfl⟩;have t1:((p:Int)==35)=false:=Xl b r;have t2:((p:Int)==42)=false:=Xl b m;have U:((p:Int)==78)=false:=Xl b j;have P:((p:Int)==48)=false:=Xl b k;have O:((p:Int)==43)=false:=Xl b g;have X:((p:Int)==33)=false:=Xl b q;have V:((p:Int)==94)=false:=Xl b o;have N:((p:Int)==95)=false:=Xl b h8;have T:((p:Int)==40)=false:=Xl b i;have G:((p:Int)==91)=false:=Xl b f;clear l r m j k g q o h8 i f hk;go_enter func176,ntmps176;go_wp2_with fail;refine(I.out _).mono ?_;intro e H B;obtain⟨t,z,x,C,D,F,A,rfl,hF,u,E⟩:=B.on;obtain⟨L,M,K,S,R,Q⟩:=own3 u.newBlk;have J:=u.size_alloc;have hE:=((xr w).alloc (H0 0 0 none 0 0)).trans u;have n:Y1 (w.heap.size+1) H t (M0 z x C D F):=by simpa using hF
 clear B hF;go_wp2_with fail;exact aP (v:= .tuple #[M0 z x C D F,m0 A]) (by simp[aR,results176,go_sem,L,M,K]) rfl ⟨t,_,A,rfl,(((n.set (by simp) _).set (by simp) _).set (by simp) _).since (by omega),((hE.setCell (by simp) _).setCell (by simp) _).setCell (by simp) _,E.out.1,E.out.2⟩
theorem dI(s:ByteArray)(a:Nat)(w:aL):aX prog 176 #[.string s,m0 a,m0 0] w (Ya w.heap.size w s.size none):=by
 go_enter func176,ntmps176;go_wp2_with fail;exact aP (v:= .tuple #[M0 0 0 none 0 0,m0 (-1)]) (by simp[aR,results176,go_sem]) rfl (qr _ _ _ _ _ rfl ((xr w).alloc _))
theorem QE(d:Nat)(hd:d<=30)(s:ByteArray)(a:Nat)(w:aL)(hs:s.size<=1000000000)(b:s.size<=a):aX prog 176 #[.string s,m0 a,m0 ((d:Int)+1)] w (Ya w.heap.size w s.size none):=by
 have t0:decide ((a:Int) < 0)=false:=decide_eq_false (by omega);have t1:decide ((s.size:Int)<=(a:Int))=true:=decide_eq_true (by omega);go_enter func176,ntmps176;go_wp2_with fail;exact aP (v:= .tuple #[M0 0 0 none 0 0,m0 (-1)]) (by simp[aR,results176,go_sem]) rfl (qr _ _ _ _ _ rfl ((xr w).alloc _))
theorem mA: ∀d:Nat,d<=30->ad d
 |0,_=> fun s a w hs x=> dI s a w
 |d+1,hd=> by
  have ih:=mA d (by omega);intro s a w hs x;rw[show((d+1:Nat):Int)=(d:Int)+1 by omega];have e:d<=30:=by omega
  rcases Nat.lt_or_ge a s.size with b|v
  · obtain⟨c,hc⟩: ∃c,s[a]=c:=⟨_,rfl⟩
    by_cases l:c=35
    · exact zI d e s a w hs b (by rw[hc,l])
    by_cases k:c=42
    · exact cJ d e s a w hs b (by rw[hc,k])
    by_cases p:c=78
    · exact wH d e s a w hs b (by rw[hc,p])
    by_cases u:c=48
    · exact kG d e s a w hs b (by rw[hc,u])
    by_cases j:c=43
    · exact rJ d e ih s a w hs b (by rw[hc,j])
    by_cases q:c=33
    · exact vH d e ih s a w hs b (by rw[hc,q])
    by_cases m:c=94
    · exact mJ d e ih s a w hs b (by rw[hc,m])
    by_cases n:c=95
    · exact WH d e ih s a w hs b (by rw[hc,n])
    by_cases r:c=40
    · exact EI d e ih s a w hs b (by rw[hc,r])
    by_cases o:c=91
    · exact ZI d e ih s a w hs b (by rw[hc,o])
    by_cases t:c=60
    · exact aJ d e ih s a w hs b (by rw[hc,t])
    by_cases g:c=123
    · exact iI d e ih s a w hs b (by rw[hc,g])
    by_cases f:c=124
    · exact SF d e ih s a w hs b (by rw[hc,f])
    by_cases i:c=64
    · exact qJ d e ih s a w hs b (by rw[hc,i])
    exact FJ d e s a w hs b c hc l k p u j q m n r o (by unfold Qi;rw[if_neg t,if_neg g,if_neg f,if_neg i])
  · rw[mD (Bn s v)]
    exact QE d e s a w hs v
end Go.Proofs.YtckhbnmfnpolgaaGreat
namespace Go.Proofs.YtckhbnmfnpolgaaGreat
open Go.RowKit
attribute [local go_sem ↓] cP cQ
def Yp(W w:aL)(e:TypeId)(v:aT)(c:List Tr):Prop:= ∃a,w.ownsRow W.heap.size e 3 v c.length a/\I1 w (fun b=> b < W.heap.size) a c
theorem Yp.nil(W w:aL)(e:TypeId):Yp W w e (.slice none 0 0) []:=⟨[],fW _ _ _ _,I1.nil⟩
theorem Yp.lt{W w:aL}{e:TypeId}{v:aT}{c:List Tr}(h:Yp W w e v c){g:Nat}(a:v.ownBlock=some g):W.heap.size<=g/\g < w.heap.size:=by
 obtain⟨d,b,f⟩:=h;exact b.lt g a
theorem TG{k n i:Int}{a:List Tr}{q:List Int}:aa (.mk k n a) (i::q)=if 0<=i/\i < a.length then aa (kd a i.toNat) q else none:=by rw[aa]
end Go.Proofs.YtckhbnmfnpolgaaGreat
namespace Go.Proofs.YtckhbnmfnpolgaaGreat
open Go.RowKit
theorem Uw(l:List UInt8):(G5 l).toList=l:=by rw[ByteArray.toList_eq,tD]
theorem qF{l:List UInt8}{t:Tr}{b:Nat}(h:Z5 30 l 0=some (t,b)):kc l=if l≠ []/\b=l.length/\Nf t=l then some t else none:=by
 unfold kc;rw[h]
theorem DJ{l:List UInt8}(h:Z5 30 l 0=none):kc l=none:=by
 unfold kc;rw[h]
theorem VE(s:ByteArray)(w:aL)(hs:s.size<=1000000000):aX prog 134 #[.string s] w fun e w'=> ∃u,e= .returned (.tuple #[u,.bool (kc s.data.toList).isSome])/\Y1 w.heap.size w' ((kc s.data.toList).getD (.mk 0 0 [])) u/\Ext w w':=by
 have L:=hdq (fun W=>(show aX prog 176 #[.string s,m0 0,m0 30] W (Ya W.heap.size W s.size (Z5 30 s.data.toList 0)) from mA 30 (by omega) s 0 W hs (by omega)));have c:s.data.toList.length=s.size:=by rw[Array.length_toList];rfl
 have o:=ByteArray.toList_eq s;obtain⟨R,x⟩: ∃R,R=kc s.data.toList:=⟨_,rfl⟩;rw[<-x];obtain⟨F,l⟩: ∃F,F=Z5 30 s.data.toList 0:=⟨_,rfl⟩;rw[<-l] at L;cases F with
 |none=>
  have C:R=none:=by rw[x];exact DJ l.symm
  have HR:=hdq C;obtain⟨M,G⟩: ∃M,s.toList.isEmpty=M:=⟨_,rfl⟩;have Lu:(s.toList== [])=M:=by rw[<-G];cases s.toList <;> rfl
  have t1:((-1:Int) !=(s.size:Int))=true:=by rw[bne_iff_ne];omega
  clear x l c o C;cases M
  all_goals(
   go_enter func134,ntmps134;go_wp2_with fail;refine(L.out _).mono ?_;rintro e k ⟨t,u,Y,rfl,hF,n,-,V⟩;obtain rfl:=V rfl;obtain⟨g,n0,j,i,f,rfl⟩:=hF.three;have hx1:=(((xr w).alloc (H0 0 0 none 0 0)).trans n).trans ((xr k).alloc (H0 g n0 j i f));have a:=((xr k).alloc (H0 g n0 j i f)).blk n.newBlk;obtain⟨q,z,p,f0,X,f2⟩:=own3 a;clear a V;go_wp2_with fail;exact aP (v:= .tuple #[M0 0 0 none 0 0,.bool false]) (by simp[aR,results134,go_sem,q,z,p]) rfl ⟨_,by rw[HR.out];rfl,by rw[HR.out];exact Y1.leaf _ _ _ _,((hx1.setCell (by simp) _).setCell (by simp) _).setCell (by simp) _⟩)
 |some y=>
  obtain⟨t,b⟩:=y;have r:R=if s.data.toList≠ []/\b=s.data.toList.length/\Nf t=s.data.toList then some t else none:=by rw[x];exact qF l.symm
  have d:s.data.toList≠ []:=by
   intro h;rw[h] at l;rw[mD (by simp)] at l;cases l
  have G:s.toList.isEmpty=false:=by rw[o];cases m:s.data.toList with|nil=> exact absurd m d|cons=> rfl
  have Lu:(s.toList== [])=false:=by rw[o];cases m:s.data.toList with|nil=> exact absurd m d|cons=> rfl
  have Z: ¬(s.toList= []):=by rw[o];exact d
  rw[c] at r;by_cases H:b=s.size
  · obtain⟨fv,P⟩: ∃fv,fv=Nf t:=⟨_,rfl⟩
    rw[<-P] at r;have HF:=hdq (fun W v (h:Lies W t v)=> GI t W v h);rw[<-P] at HF;have t1:((b:Int) !=(s.size:Int))=false:=by simp[H]
    obtain⟨K,B⟩: ∃K,((G5 fv).toList==s.toList)=K:=⟨_,rfl⟩;have I:R=if K=true then some t else none:=by
     rw[r,<-B,Uw,o];by_cases m:fv=s.data.toList
     · rw[if_pos ⟨d,H,m⟩,if_pos (by rw[m];simp)]
     · rw[if_neg (fun h=> m h.2.2),if_neg (by simpa using m)]
    have HR:=hdq I;have Q:=hdq B;clear x l r d o P I c H;go_enter func134,ntmps134;go_wp2_with fail;refine(L.out _).mono ?_;rintro e k ⟨t',u,Y,rfl,hF,n,J,-⟩;obtain⟨E,A,S⟩:=J _ rfl;simp only at E A S;subst E A;obtain⟨g,n0,j,i,f,rfl⟩:=hF.three;have T:=n.size_alloc;have hx1:=(((xr w).alloc (H0 0 0 none 0 0)).trans n).trans ((xr k).alloc (H0 g n0 j i f));have a:=((xr k).alloc (H0 g n0 j i f)).blk n.newBlk;have U:=aS k (H0 g n0 j i f);have D:Y1 (w.heap.size+1) (k.alloc (H0 g n0 j i f)) t' (M0 g n0 j i f):=by simpa using hF.ext ((xr k).alloc (H0 g n0 j i f))
    clear hF T J;go_wp2_with fail;refine(HF.out _ _ D.lies).mono ?_;rintro e w2 ⟨rfl,N⟩;have hx2:=hx1.trans N;have O:=D.ext N;obtain⟨q,z,p,f0,X,f2⟩:=own3 (N.blk a);obtain⟨x0,x1,x2,-,-,-⟩:=own3 (N.blk U);have m:=Q.out;clear a U;cases K with
    |false=>
     go_wp2_with fail;exact aP (v:= .tuple #[M0 0 0 none 0 0,.bool false]) (by simp[aR,results134,go_sem,q,z,p]) rfl ⟨_,by rw[HR.out];rfl,by rw[HR.out];exact Y1.leaf _ _ _ _,((hx2.setCell (by simp) _).setCell (by simp) _).setCell (by simp) _⟩
    |true=>
     go_wp2_with fail;exact aP (v:= .tuple #[M0 g n0 j i f,.bool true]) (by simp[aR,results134,go_sem,q,z,p]) rfl ⟨_,by rw[HR.out];rfl,by rw[HR.out];exact(((O.set (by simp) _).set (by simp) _).set (by simp) _).since (by omega),((hx2.setCell (by simp) _).setCell (by simp) _).setCell (by simp) _⟩
  · have C:R=none:=by rw[r,if_neg (fun h=> H h.2.1)]
    have HR:=hdq C;have t1:((b:Int) !=(s.size:Int))=true:=by rw[bne_iff_ne];omega
    clear x l r d o C c H;go_enter func134,ntmps134;go_wp2_with fail;refine(L.out _).mono ?_;rintro e k ⟨t',u,Y,rfl,hF,n,J,-⟩;obtain⟨E,A,S⟩:=J _ rfl;simp only at E A S;subst E A;obtain⟨g,n0,j,i,f,rfl⟩:=hF.three;have hx1:=(((xr w).alloc (H0 0 0 none 0 0)).trans n).trans ((xr k).alloc (H0 g n0 j i f));have a:=((xr k).alloc (H0 g n0 j i f)).blk n.newBlk;obtain⟨q,z,p,f0,X,f2⟩:=own3 a;clear a J;go_wp2_with fail;exact aP (v:= .tuple #[M0 0 0 none 0 0,.bool false]) (by simp[aR,results134,go_sem,q,z,p]) rfl ⟨_,by rw[HR.out];rfl,by rw[HR.out];exact Y1.leaf _ _ _ _,((hx1.setCell (by simp) _).setCell (by simp) _).setCell (by simp) _⟩
end Go.Proofs.YtckhbnmfnpolgaaGreat
namespace Go.Proofs.YtckhbnmfnpolgaaGreat
open Go.RowKit
attribute [local go_sem ↓] cP cQ
def wd(t:Tr):List Int:=(outT t).getD []
def CH(t:Tr):Prop:= ∀(w:aL) (v:aT) (d:Int),P0 D0 t d=true->Lies w t v->d<=1000->aX prog 97 #[v] w fun e a=> ∃x,e= .returned (.tuple #[x,.bool (outT t).isSome])/\a.ownsRow w.heap.size 3 1 x (wd t).length ((wd t).map (Value.int .i64))/\Ext w a
theorem dH: ∀t:Tr,CH t:=Tr.ind fun k n a hk=> by
 intro w v d hsh O hd;have HR:=hdq (fun V (M:Ext w V)=> Lr (.mk k n a) d hsh V v (O.ext M));have P:=ew (.mk k n a) d hsh;obtain⟨-,-,-,H⟩:=zw hsh;obtain⟨A,cap,rfl,hl,hc,hK⟩:=Lies.mk_iff.1 O;obtain⟨i0,hi,U,Q,N⟩:=info_parts WC;have S:=hc;unfold maxLen at S;have m:outT (.mk k n a)=if rdx k a=0 then Mc 0 a else some []:=by rw[outT]
 have f:=(xr w).alloc (.cells #[.int .i64 k,.int .i64 n,.slice A a.length cap] 25);have T:=aS w (.cells #[.int .i64 k,.int .i64 n,.slice A a.length cap] 25);obtain⟨r,hr⟩: ∃r,rdx k a=r:=⟨_,rfl⟩;have Y:=hdq (show∀V,Ext w V->aX prog 133 #[.agg #[.int .i64 k,.int .i64 n,.slice A a.length cap]] V fun e w'=> e= .returned (.int .i64 r)/\Ext V w' from fun V M=> by have:=HR.out V M;rw[show Y3 (.mk k n a)=r from hr] at this;exact this);rw[hr] at m;clear hr HR;by_cases G:r=0
 · rw[if_pos G] at m
   have R:(r !=0)=false:=by rw[G];rfl
   subst G;have l:=hdq m;clear m O;go_enter func97,ntmps97;go_wp2_with fail;refine(Y.out _ f).mono ?_;rintro e w1 ⟨rfl,y⟩;obtain⟨z0,z1,z2,-,-,-⟩:=own3 (y.blk T);have lz:=O1 (y.blk T);have hx1:=f.trans y;clear T y f Y;go_wp2_with fail;clear z0 z1 z2 lz
   go_loopw [14] (fun i wr=> ∃(j:Nat),j<=a.length/\i= .int .i64 j/\Hid (Mc 0 a=Mc j (a.drop j))/\Ext w wr) (fun i _=> a.length -(intOf i).toNat)
   case atStart=> exact⟨0,Nat.zero_le _,rfl,hdq rfl,hx1⟩
   case round=>
    obtain⟨j,hj',rfl,J,hx⟩:=hrel;by_cases F:j < a.length
    · obtain⟨b,o,z,u,A',K,kids,rfl,HK,c0,c1,c2,I5,I3,hK',x7,X⟩:=hK.get hx F
      have c:Mc j (a.drop j)=match outT (.mk z u kids) with|some p=> some ((j:Int)::p) |none=> Mc (j+1) (a.drop (j+1)):=by
       rw[List.drop_eq_getElem_cons F,HK.out];conv=> lhs;unfold Mc
       rfl
      have L:=ew (.mk z u kids) (d - 1) (H _ X);have O9:=(xr wr).alloc (.cells #[.int .i64 z,.int .i64 u,.slice A' kids.length K] 25);have C:=hdq (hk _ X _ _ (d - 1) (H _ X) (x7.ext O9) (by omega));have E:wd (.mk z u kids)=(outT (.mk z u kids)).getD []:=rfl;rw[E] at C;clear E;generalize outT (.mk z u kids)=q at c L C;have qd:(j:Int) <(a.length:Int):=by omega
      clear P x7;go_wp2_with fail;refine C.out.mono ?_;rintro e s ⟨x,rfl,I,h2⟩;have hx2:=(hx.trans O9).trans h2;cases q with
      |some p=>
       have hpl:=L p rfl;simp only[Option.getD_some] at I;simp only at c;have B:=hdq ((l.out.trans J.out).trans c);have ck:=Xx I;obtain⟨Bq,cq,rfl,-,-,-⟩:=mu I;have hx3:=(xr s).alloc (.cells #[.int .i64 j] 3);have hG:(s.alloc (.cells #[.int .i64 j] 3)).ownsRow s.heap.size 3 1 (.slice (some ⟨s.heap.size,0,none⟩) 1 1) ([(j:Int)]).length (([(j:Int)]).map (Value.int .i64)):=World.ownsRow_lit s #[.int .i64 j] 1 (Nat.le_refl _) (by decide) rfl;have V2:=ck.ext hx3;clear c C J l ck I L;go_wp2_with (at_builtin;refine Yx _ rfl (.tmp 26) (.tmp 27) 93 rfl s.heap.size 3 i0 _ 8 underlying93 hi U Q N (by decide) rfl (ns:= [(j:Int)]) (p:=p) rfl hG (by simp) rfl V2 (by simp;omega) ?_)
       intro va wa bh az mi;have mg:Ext w wa:=hx2.trans (hx3.grown az (by intro g hg;simp[Value.ownBlock] at hg;omega));have W:=hx2.size;have Z:wa.ownsRow w.heap.size 3 1 va ((j:Int)::p).length ((((j:Int)::p)).map (Value.int .i64)):=rx bh W;have lq:=hdq Z;clear bh az mi Z;go_wp2_with fail;go_ret2;have D:wd (.mk k n a)=(j:Int)::p:=by unfold wd;rw[B.out];rfl
       exact⟨_,by rw[B.out];rfl,by rw[D];exact lq.out,mg⟩
      |none=>
       simp only at c;have fg:=hdq (J.out.trans c);clear c C I L;go_wp2_with fail
       go_roundw
       case rel=> exact⟨j+1,by omega,by go_num,fg,hx2⟩
       case measure=> simp[intOf];omega
    · have B:=hdq ((l.out.trans J.out).trans (show Mc j (a.drop j)=none by rw[List.drop_of_length_le (by omega),Mc]))
      clear J l;go_wp2_with fail;go_ret2;have D:wd (.mk k n a)= []:=by unfold wd;rw[B.out];rfl
      exact⟨_,by rw[B.out];rfl,by rw[D];exact fW _ _ _ _,hx⟩
 · rw[if_neg G] at m
   have R:(r !=0)=true:=bne_iff_ne.2 G;have l:=hdq m;clear m;go_enter func97,ntmps97;go_wp2_with fail;refine(Y.out _ f).mono ?_;rintro e w1 ⟨rfl,y⟩;go_wp2_with fail;go_ret2;have D:wd (.mk k n a)= []:=by unfold wd;rw[l.out];rfl
   exact⟨_,by rw[l.out];rfl,by rw[D];exact fW _ _ _ _,f.trans y⟩
theorem bz: ∀(a:List Int) (t u:Tr),aa t a=some u->cnt u<=cnt t
 | [],t,u,e=> by
  have e:t=u:=by cases t;simpa[aa] using e
  subst e;exact Nat.le_refl _
 |i::a,.mk k n b,u,e=> by
  rw[aa] at e
  split at e
  · rename_i hi
    have d:=bz a _ u e;have c:=k9 (Xi (ks:=b) (i:=i.toNat) (by omega));rw[cnt];omega
  · cases e
theorem Y1.only{B:Nat}{w d:aL}{t:Tr}{v:aT}{L:List Nat}(h:Y1 B w t v)(c:D1 L w d)(e: ∀b,b∈L->b < B):Y1 B d t v:=
 h.mono (fun b a=>⟨a.1,Nat.lt_of_lt_of_le a.2 c.size⟩) (fun b a=> c.block b a.2 (fun hm=> by have:=e b hm;omega))
def nd:Nat->Nat
 |0=> 3
 |d+1=> 3+4*nd d
mutual
def dT:Tr->Nat
 | .mk _ _ a=> qs a+1
def qs:List Tr->Nat
 | []=> 0
 |t::ts=> max (dT t) (qs ts)
end
theorem Nj: ∀{ts:List Tr} {n:Nat},(∀t∈ts,dT t<=n)->qs ts<=n
 | [],_,_=> Nat.zero_le _
 |t::ts,n,h=> by
  have b:=h t (by simp);have a:=Nj (ts:=ts) (n:=n) fun x hx=> h x (by simp[hx])
  simp only[qs];omega
theorem UA{w:aL}{cs:Array aT}{e:TypeId}{ns:List Int}(hc:cs.toList=ns.map (Value.int .i64)):Sa (w.alloc (.cells cs e)) (some ⟨w.heap.size,0,none⟩) ns:=CJ (aS w _) hc
theorem Rd.set{w:aL}{g m:Nat}(h:Rd w g m){p:Addr}(j:g < p.block)(u:aT):Rd (w.setCell p u) g m:=by
 obtain⟨A,cap,i,q,a,f,e,c,d,hB⟩:=h;exact⟨A,cap,i,q,Bd a (by omega) u,f,e,c,d,hB.below (by simp) (fun b a _=> Below.heap_setCell w p u b (by omega))⟩
theorem D1.one(w:aL)(g i:Nat)(u:aT):D1 [g] w (w.setCell ⟨g,i,none⟩ u):=(D1.refl [g] w).setCell (by simp) u
theorem Rd.under{w c:aL}{g m B:Nat}(h:Rd w g m)(a:Below B w c)(hB:g < B):Rd c g m:=by
 obtain⟨A,cap,l,q,hk,k,i,d,e,f⟩:=h;exact⟨A,cap,l,q,(a.block g hB).trans hk,k,i,d,e,f.below a.size (fun b j _=> a.block b (by omega))⟩
theorem D1.keepBlk{L:List Nat}{w a:aL}{b:Nat}{x:Obj}(c:D1 L w a)(h:w.heap[b]? =some x)(hn: ¬b∈L):a.heap[b]? =some x:=(c.block b (O1 h) hn).trans h

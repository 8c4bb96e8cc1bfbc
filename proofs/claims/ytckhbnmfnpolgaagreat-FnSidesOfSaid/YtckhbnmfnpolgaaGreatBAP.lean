/-
  Lemmas towards the law, 16: Parse5, Places2, Tks, Parse6, Walked, Parse7, Places3, Walked2, Draws.
-/
import Derived.Test.YtckhbnmfnpolgaaGreatBAO
open Go renaming World->aK,Calls->aV,bodyPost_ret->aO,results->aQ,wp_at_zero->cM,wp_at_succ->cN,Program->eP,Value->aS,heap_alloc_new->aR
open Bool renaming and_eq_true->aW
open Go.World renaming ownsRow_nil->fQ
open Go.Proofs.Tryz
set_option linter.unusedVariables false
set_option maxHeartbeats 2000000
set_option maxRecDepth 100000
namespace Go.Proofs.YtckhbnmfnpolgaaGreat
open Go.RowKit
theorem nf{d:Nat}{l:List UInt8}{a:Nat}{c:UInt8}(h:l[a]? =some c):Z5 (d+1) l a=
 (if c=35 then(i8 l (a+1) true).map (fun x=>(.mk 1 x.1 [],x.2))
 else if c=42 then(i8 l (a+1) false).map (fun x=>(.mk 2 x.1 [],x.2))
 else if c=78 then some (.mk 6 0 [],a+1)
 else if c=48 then some (.mk 7 0 [],a+1)
 else if c=43 then one 8 (Z5 d l (a+1))
 else if c=33 then one 11 (Z5 d l (a+1))
 else if c=94 then one 15 (Z5 d l (a+1))
 else if c=95 then one 16 (Z5 d l (a+1))
 else if c=40 then Xw (Z5 d l) l (a+1)
 else if c=91 then vx (Z5 d l) l (a+1)
 else blk (Z5 d l) l a c):=by
 conv=> lhs;unfold Z5
 rw[h]
theorem LB{d:Nat}{l:List UInt8}{a:Nat}(h:l[a]? =none):Z5 d l a=none:=by
 cases d with
 |zero=> rfl
 |succ d=>
  unfold Z5;rw[h]
theorem JB{l:List UInt8}{a:Nat}{two:Bool}{x:Int×Nat}(h:i8 l a two=some x):x.2<=l.length:=by
 unfold i8 at h;cases b:l[a]?with
 |none=> rw[b] at h;cases h
 |some c=>
  have f:a < l.length:=by
   rcases Nat.lt_or_ge a l.length with g|g
   · exact g
   · rw[List.getElem?_eq_none g] at b;cases b
  rw[b] at h;simp only at h
  split at h
  · split at h
    · cases e:l[a+1]?with
      |none=> rw[e] at h;cases h;exact f
      |some d=>
       have i:a+1 < l.length:=by
        rcases Nat.lt_or_ge (a+1) l.length with g|g
        · exact g
        · rw[List.getElem?_eq_none g] at e;cases e
       rw[e] at h;simp only at h
       split at h
       · split at h
         · cases h
         · cases h;exact i
       · cases h;exact f
    · cases h;exact f
  · cases h
theorem bF(d:Nat)(hd:d<=30)(s:ByteArray)(a:Nat)(w:aK)(hs:s.size<=1000000000)(t:a < s.size)(hc:s[a]=35):
 aV prog 176 #[.string s,.int .i64 a,.int .i64 ((d:Int)+1)] w (Xa w.heap.size w s.size (Z5 (d+1) s.data.toList a)):=by
 have j:Z5 (d+1) s.data.toList a=(i8 s.data.toList (a+1) true).map (fun x=>(.mk 1 x.1 [],x.2)):=by rw[nf (Md t hc)];rfl
 rw[j];have hN:=fun W=> cF s (a+1) W hs (by omega)
 have b: ∀x,i8 s.data.toList (a+1) true=some x->x.2<=s.size:=fun x h=> by have:=JB h;simpa using this
 obtain⟨S,hS⟩: ∃S,S=i8 s.data.toList (a+1) true:=⟨_,rfl⟩;rw[<-hS] at hN b⊢;rw[show((a+1:Nat):Int)=(a:Int)+1 by omega] at hN;have q:=hdq hN;have p:=hdq b;clear j hN b hS;go_enter func176,ntmps176;go_wp2_with fail;refine(q.out _).mono ?_;rintro e D ⟨rfl,rfl⟩;obtain⟨x,hx⟩: ∃x,x=(Lb S).1:=⟨_,rfl⟩;obtain⟨f,g⟩: ∃f,f=(Lb S).2:=⟨_,rfl⟩;rw[<-hx,<-g];have o:=hdq hx;have k:=hdq g;clear hx g;go_wp2_with fail;refine(y15 _ 1 x).mono ?_;rintro e C ⟨rfl,i⟩;obtain⟨l,m,u,B,A,E⟩:=own3 i.newBlk;have r:=i.size_alloc;have n:=((xr w).alloc (.cells #[.int .i64 0,.int .i64 0,.slice none 0 0] 25)).trans i;go_wp2_with fail;refine aO (v:= .tuple #[.agg #[.int .i64 1,.int .i64 x,.slice none 0 0],.int .i64 f]) (by simp[aQ,results176,go_sem,l,m,u]) rfl ⟨.mk 1 x [],_,f,rfl,j2.leaf _ _ _ _,((n.setCell (by simp) _).setCell (by simp) _).setCell (by simp) _, ?_, ?_⟩
 · intro z c
   cases S with
   |none=> cases c
   |some y=>
    cases c
    exact⟨by rw[o.out];rfl,by rw[k.out];rfl,p.out y rfl⟩
 · intro c
   cases S with
   |none=> rw[k.out];rfl
   |some y=> cases c
theorem pG(d:Nat)(hd:d<=30)(s:ByteArray)(a:Nat)(w:aK)(hs:s.size<=1000000000)(t:a < s.size)(hc:s[a]=42):
 aV prog 176 #[.string s,.int .i64 a,.int .i64 ((d:Int)+1)] w (Xa w.heap.size w s.size (Z5 (d+1) s.data.toList a)):=by
 have j:Z5 (d+1) s.data.toList a=(i8 s.data.toList (a+1) false).map (fun x=>(.mk 2 x.1 [],x.2)):=by rw[nf (Md t hc)];rfl
 rw[j];have hN:=fun W=> yF s (a+1) W hs (by omega)
 have b: ∀x,i8 s.data.toList (a+1) false=some x->x.2<=s.size:=fun x h=> by have:=JB h;simpa using this
 obtain⟨S,hS⟩: ∃S,S=i8 s.data.toList (a+1) false:=⟨_,rfl⟩;rw[<-hS] at hN b⊢;rw[show((a+1:Nat):Int)=(a:Int)+1 by omega] at hN;have q:=hdq hN;have p:=hdq b;clear j hN b hS;go_enter func176,ntmps176;go_wp2_with fail;refine(q.out _).mono ?_;rintro e D ⟨rfl,rfl⟩;obtain⟨x,hx⟩: ∃x,x=(Lb S).1:=⟨_,rfl⟩;obtain⟨f,g⟩: ∃f,f=(Lb S).2:=⟨_,rfl⟩;rw[<-hx,<-g];have o:=hdq hx;have k:=hdq g;clear hx g;go_wp2_with fail;refine(y15 _ 2 x).mono ?_;rintro e C ⟨rfl,i⟩;obtain⟨l,m,u,B,A,E⟩:=own3 i.newBlk;have r:=i.size_alloc;have n:=((xr w).alloc (.cells #[.int .i64 0,.int .i64 0,.slice none 0 0] 25)).trans i;go_wp2_with fail;refine aO (v:= .tuple #[.agg #[.int .i64 2,.int .i64 x,.slice none 0 0],.int .i64 f]) (by simp[aQ,results176,go_sem,l,m,u]) rfl ⟨.mk 2 x [],_,f,rfl,j2.leaf _ _ _ _,((n.setCell (by simp) _).setCell (by simp) _).setCell (by simp) _, ?_, ?_⟩
 · intro z c
   cases S with
   |none=> cases c
   |some y=>
    cases c
    exact⟨by rw[o.out];rfl,by rw[k.out];rfl,p.out y rfl⟩
 · intro c
   cases S with
   |none=> rw[k.out];rfl
   |some y=> cases c
theorem SE(d:Nat)(hd:d<=30)(s:ByteArray)(a:Nat)(w:aK)(hs:s.size<=1000000000)(f:a < s.size)(hc:s[a]=78):
 aV prog 176 #[.string s,.int .i64 a,.int .i64 ((d:Int)+1)] w (Xa w.heap.size w s.size (Z5 (d+1) s.data.toList a)):=by
 have HR:=hdq (show Z5 (d+1) s.data.toList a=some (.mk 6 0 [],a+1) from by rw[nf (Md f hc)];rfl);generalize Z5 (d+1) s.data.toList a=R at HR⊢;go_enter func176,ntmps176;go_wp2_with fail;refine(y15 _ 6 0).mono ?_;rintro e o ⟨rfl,c⟩;obtain⟨i,g,l,n,m,p⟩:=own3 c.newBlk;have k:=c.size_alloc;have j:=((xr w).alloc (.cells #[.int .i64 0,.int .i64 0,.slice none 0 0] 25)).trans c;go_wp2_with fail;refine aO (v:= .tuple #[.agg #[.int .i64 6,.int .i64 0,.slice none 0 0],.int .i64 ((a:Int)+1)]) (by simp[aQ,results176,go_sem,i,g,l]) rfl ⟨.mk 6 0 [],_,_,rfl,j2.leaf _ _ _ _,((j.setCell (by simp) _).setCell (by simp) _).setCell (by simp) _, ?_, ?_⟩
 · intro z b
   rw[HR.out] at b;cases b
   exact⟨rfl,by simp,f⟩
 · intro b
   rw[HR.out] at b;cases b
theorem IE(d:Nat)(hd:d<=30)(s:ByteArray)(a:Nat)(w:aK)(hs:s.size<=1000000000)(f:a < s.size)(hc:s[a]=48):
 aV prog 176 #[.string s,.int .i64 a,.int .i64 ((d:Int)+1)] w (Xa w.heap.size w s.size (Z5 (d+1) s.data.toList a)):=by
 have HR:=hdq (show Z5 (d+1) s.data.toList a=some (.mk 7 0 [],a+1) from by rw[nf (Md f hc)];rfl);generalize Z5 (d+1) s.data.toList a=R at HR⊢;go_enter func176,ntmps176;go_wp2_with fail;refine(y15 _ 7 0).mono ?_;rintro e o ⟨rfl,c⟩;obtain⟨i,g,l,n,m,p⟩:=own3 c.newBlk;have k:=c.size_alloc;have j:=((xr w).alloc (.cells #[.int .i64 0,.int .i64 0,.slice none 0 0] 25)).trans c;go_wp2_with fail;refine aO (v:= .tuple #[.agg #[.int .i64 7,.int .i64 0,.slice none 0 0],.int .i64 ((a:Int)+1)]) (by simp[aQ,results176,go_sem,i,g,l]) rfl ⟨.mk 7 0 [],_,_,rfl,j2.leaf _ _ _ _,((j.setCell (by simp) _).setCell (by simp) _).setCell (by simp) _, ?_, ?_⟩
 · intro z b
   rw[HR.out] at b;cases b
   exact⟨rfl,by simp,f⟩
 · intro b
   rw[HR.out] at b;cases b
theorem Xa.on{B:Nat}{w:aK}{size:Nat}{o:Option (Tr×Nat)}{e:Ending}{b:aK}(h:Xa B w size o e b): ∃(t:Tr) (k n:Int) (A:Option Addr) (l c:Nat) (a:Int),e= .returned (.tuple #[.agg #[.int .i64 k,.int .i64 n,.slice A l c],.int .i64 a])/\j2 B b t (.agg #[.int .i64 k,.int .i64 n,.slice A l c])/\Ext w b/\Hid ((∀x,o=some x->t=x.1/\a=x.2/\x.2<=size)/\(o=none->a= -1)):=by
 obtain⟨t,u,a,rfl,hF,d,q⟩:=h;obtain⟨k,n,A,l,c,rfl⟩:=hF.three;exact⟨t,k,n,A,l,c,a,rfl,hF,d,hdq q⟩
theorem rz(d:Nat)(ih:Vc d)(s:ByteArray)(a:Nat)(w:aK)(hs:s.size<=1000000000)(b:a < s.size):
 aV prog 194 #[.string s,.int .i64 ((a:Int)+1),.int .i64 d] w (Xa w.heap.size w s.size (Xw (Z5 d s.data.toList) s.data.toList (a+1))):=by
 have:=WH d ih s (a+1) w hs b
 rwa [show((a+1:Nat):Int)=(a:Int)+1 by omega] at this
theorem FH(d:Nat)(hd:d<=30)(ih:Vc d)(s:ByteArray)(a:Nat)(w:aK)(hs:s.size<=1000000000)(o:a < s.size)(hc:s[a]=43):
 aV prog 176 #[.string s,.int .i64 a,.int .i64 ((d:Int)+1)] w (Xa w.heap.size w s.size (Z5 (d+1) s.data.toList a)):=by
 have q:=hdq (fun W=> SH d ih s a W hs o hc hd);have f:=nf (d:=d) (Md o hc);rw[f];clear f
 repeat rw[if_neg (by decide)]
 try rw[if_pos rfl]
 clear ih;go_enter func176,ntmps176;go_wp2_with fail;refine(q.out _).mono ?_;intro e z i;obtain⟨t,l,k,n,m,j,g,rfl,hF,c,p⟩:=i.on;obtain⟨r,u,A,C,B,D⟩:=own3 c.newBlk;have y:=c.size_alloc;have x:=((xr w).alloc (.cells #[.int .i64 0,.int .i64 0,.slice none 0 0] 25)).trans c;have b:j2 (w.heap.size+1) z t (.agg #[.int .i64 l,.int .i64 k,.slice n m j]):=by simpa using hF
 clear i hF;go_wp2_with fail;exact aO (v:= .tuple #[.agg #[.int .i64 l,.int .i64 k,.slice n m j],.int .i64 g]) (by simp[aQ,results176,go_sem,r,u,A]) rfl ⟨t,_,g,rfl,(((b.set (by simp) _).set (by simp) _).set (by simp) _).since (by omega),((x.setCell (by simp) _).setCell (by simp) _).setCell (by simp) _,p.out.1,p.out.2⟩
theorem xF(d:Nat)(hd:d<=30)(ih:Vc d)(s:ByteArray)(a:Nat)(w:aK)(hs:s.size<=1000000000)(o:a < s.size)(hc:s[a]=33):
 aV prog 176 #[.string s,.int .i64 a,.int .i64 ((d:Int)+1)] w (Xa w.heap.size w s.size (Z5 (d+1) s.data.toList a)):=by
 have q:=hdq (fun W=> zH d ih s a W hs o hc hd);have f:=nf (d:=d) (Md o hc);rw[f];clear f
 repeat rw[if_neg (by decide)]
 try rw[if_pos rfl]
 clear ih;go_enter func176,ntmps176;go_wp2_with fail;refine(q.out _).mono ?_;intro e z i;obtain⟨t,l,k,n,m,j,g,rfl,hF,c,p⟩:=i.on;obtain⟨r,u,A,C,B,D⟩:=own3 c.newBlk;have y:=c.size_alloc;have x:=((xr w).alloc (.cells #[.int .i64 0,.int .i64 0,.slice none 0 0] 25)).trans c;have b:j2 (w.heap.size+1) z t (.agg #[.int .i64 l,.int .i64 k,.slice n m j]):=by simpa using hF
 clear i hF;go_wp2_with fail;exact aO (v:= .tuple #[.agg #[.int .i64 l,.int .i64 k,.slice n m j],.int .i64 g]) (by simp[aQ,results176,go_sem,r,u,A]) rfl ⟨t,_,g,rfl,(((b.set (by simp) _).set (by simp) _).set (by simp) _).since (by omega),((x.setCell (by simp) _).setCell (by simp) _).setCell (by simp) _,p.out.1,p.out.2⟩
theorem WF(d:Nat)(hd:d<=30)(ih:Vc d)(s:ByteArray)(a:Nat)(w:aK)(hs:s.size<=1000000000)(o:a < s.size)(hc:s[a]=94):
 aV prog 176 #[.string s,.int .i64 a,.int .i64 ((d:Int)+1)] w (Xa w.heap.size w s.size (Z5 (d+1) s.data.toList a)):=by
 have q:=hdq (fun W=> jF d ih s a W hs o hc hd);have f:=nf (d:=d) (Md o hc);rw[f];clear f
 repeat rw[if_neg (by decide)]
 try rw[if_pos rfl]
 clear ih;go_enter func176,ntmps176;go_wp2_with fail;refine(q.out _).mono ?_;intro e z i;obtain⟨t,l,k,n,m,j,g,rfl,hF,c,p⟩:=i.on;obtain⟨r,u,A,C,B,D⟩:=own3 c.newBlk;have y:=c.size_alloc;have x:=((xr w).alloc (.cells #[.int .i64 0,.int .i64 0,.slice none 0 0] 25)).trans c;have b:j2 (w.heap.size+1) z t (.agg #[.int .i64 l,.int .i64 k,.slice n m j]):=by simpa using hF
 clear i hF;go_wp2_with fail;exact aO (v:= .tuple #[.agg #[.int .i64 l,.int .i64 k,.slice n m j],.int .i64 g]) (by simp[aQ,results176,go_sem,r,u,A]) rfl ⟨t,_,g,rfl,(((b.set (by simp) _).set (by simp) _).set (by simp) _).since (by omega),((x.setCell (by simp) _).setCell (by simp) _).setCell (by simp) _,p.out.1,p.out.2⟩
theorem ME(d:Nat)(hd:d<=30)(ih:Vc d)(s:ByteArray)(a:Nat)(w:aK)(hs:s.size<=1000000000)(o:a < s.size)(hc:s[a]=95):
 aV prog 176 #[.string s,.int .i64 a,.int .i64 ((d:Int)+1)] w (Xa w.heap.size w s.size (Z5 (d+1) s.data.toList a)):=by
 have q:=hdq (fun W=> CG d ih s a W hs o hc hd);have f:=nf (d:=d) (Md o hc);rw[f];clear f
 repeat rw[if_neg (by decide)]
 try rw[if_pos rfl]
 clear ih;go_enter func176,ntmps176;go_wp2_with fail;refine(q.out _).mono ?_;intro e z i;obtain⟨t,l,k,n,m,j,g,rfl,hF,c,p⟩:=i.on;obtain⟨r,u,A,C,B,D⟩:=own3 c.newBlk;have y:=c.size_alloc;have x:=((xr w).alloc (.cells #[.int .i64 0,.int .i64 0,.slice none 0 0] 25)).trans c;have b:j2 (w.heap.size+1) z t (.agg #[.int .i64 l,.int .i64 k,.slice n m j]):=by simpa using hF
 clear i hF;go_wp2_with fail;exact aO (v:= .tuple #[.agg #[.int .i64 l,.int .i64 k,.slice n m j],.int .i64 g]) (by simp[aQ,results176,go_sem,r,u,A]) rfl ⟨t,_,g,rfl,(((b.set (by simp) _).set (by simp) _).set (by simp) _).since (by omega),((x.setCell (by simp) _).setCell (by simp) _).setCell (by simp) _,p.out.1,p.out.2⟩
theorem OE(d:Nat)(hd:d<=30)(ih:Vc d)(s:ByteArray)(a:Nat)(w:aK)(hs:s.size<=1000000000)(o:a < s.size)(hc:s[a]=60):
 aV prog 176 #[.string s,.int .i64 a,.int .i64 ((d:Int)+1)] w (Xa w.heap.size w s.size (Z5 (d+1) s.data.toList a)):=by
 have q:=hdq (fun W=> QH d hd ih s a W hs o hc);have f:=nf (d:=d) (Md o hc);rw[f];clear f
 repeat rw[if_neg (by decide)]
 try rw[if_pos rfl]
 clear ih;go_enter func176,ntmps176;go_wp2_with fail;refine(q.out _).mono ?_;intro e z i;obtain⟨t,l,k,n,m,j,g,rfl,hF,c,p⟩:=i.on;obtain⟨r,u,A,C,B,D⟩:=own3 c.newBlk;have y:=c.size_alloc;have x:=((xr w).alloc (.cells #[.int .i64 0,.int .i64 0,.slice none 0 0] 25)).trans c;have b:j2 (w.heap.size+1) z t (.agg #[.int .i64 l,.int .i64 k,.slice n m j]):=by simpa using hF
 clear i hF;go_wp2_with fail;exact aO (v:= .tuple #[.agg #[.int .i64 l,.int .i64 k,.slice n m j],.int .i64 g]) (by simp[aQ,results176,go_sem,r,u,A]) rfl ⟨t,_,g,rfl,(((b.set (by simp) _).set (by simp) _).set (by simp) _).since (by omega),((x.setCell (by simp) _).setCell (by simp) _).setCell (by simp) _,p.out.1,p.out.2⟩
theorem jH(d:Nat)(hd:d<=30)(ih:Vc d)(s:ByteArray)(a:Nat)(w:aK)(hs:s.size<=1000000000)(o:a < s.size)(hc:s[a]=123):
 aV prog 176 #[.string s,.int .i64 a,.int .i64 ((d:Int)+1)] w (Xa w.heap.size w s.size (Z5 (d+1) s.data.toList a)):=by
 have q:=hdq (fun W=> aG d hd ih s a W hs o hc);have f:=nf (d:=d) (Md o hc);rw[f];clear f
 repeat rw[if_neg (by decide)]
 try rw[if_pos rfl]
 clear ih;go_enter func176,ntmps176;go_wp2_with fail;refine(q.out _).mono ?_;intro e z i;obtain⟨t,l,k,n,m,j,g,rfl,hF,c,p⟩:=i.on;obtain⟨r,u,A,C,B,D⟩:=own3 c.newBlk;have y:=c.size_alloc;have x:=((xr w).alloc (.cells #[.int .i64 0,.int .i64 0,.slice none 0 0] 25)).trans c;have b:j2 (w.heap.size+1) z t (.agg #[.int .i64 l,.int .i64 k,.slice n m j]):=by simpa using hF
 clear i hF;go_wp2_with fail;exact aO (v:= .tuple #[.agg #[.int .i64 l,.int .i64 k,.slice n m j],.int .i64 g]) (by simp[aQ,results176,go_sem,r,u,A]) rfl ⟨t,_,g,rfl,(((b.set (by simp) _).set (by simp) _).set (by simp) _).since (by omega),((x.setCell (by simp) _).setCell (by simp) _).setCell (by simp) _,p.out.1,p.out.2⟩
theorem NH(d:Nat)(hd:d<=30)(ih:Vc d)(s:ByteArray)(a:Nat)(w:aK)(hs:s.size<=1000000000)(o:a < s.size)(hc:s[a]=124):
 aV prog 176 #[.string s,.int .i64 a,.int .i64 ((d:Int)+1)] w (Xa w.heap.size w s.size (Z5 (d+1) s.data.toList a)):=by
 have q:=hdq (fun W=> wF d hd ih s a W hs o hc);have f:=nf (d:=d) (Md o hc);rw[f];clear f
 repeat rw[if_neg (by decide)]
 try rw[if_pos rfl]
 clear ih;go_enter func176,ntmps176;go_wp2_with fail;refine(q.out _).mono ?_;intro e z i;obtain⟨t,l,k,n,m,j,g,rfl,hF,c,p⟩:=i.on;obtain⟨r,u,A,C,B,D⟩:=own3 c.newBlk;have y:=c.size_alloc;have x:=((xr w).alloc (.cells #[.int .i64 0,.int .i64 0,.slice none 0 0] 25)).trans c;have b:j2 (w.heap.size+1) z t (.agg #[.int .i64 l,.int .i64 k,.slice n m j]):=by simpa using hF
 clear i hF;go_wp2_with fail;exact aO (v:= .tuple #[.agg #[.int .i64 l,.int .i64 k,.slice n m j],.int .i64 g]) (by simp[aQ,results176,go_sem,r,u,A]) rfl ⟨t,_,g,rfl,(((b.set (by simp) _).set (by simp) _).set (by simp) _).since (by omega),((x.setCell (by simp) _).setCell (by simp) _).setCell (by simp) _,p.out.1,p.out.2⟩
theorem QF(d:Nat)(hd:d<=30)(ih:Vc d)(s:ByteArray)(a:Nat)(w:aK)(hs:s.size<=1000000000)(o:a < s.size)(hc:s[a]=64):
 aV prog 176 #[.string s,.int .i64 a,.int .i64 ((d:Int)+1)] w (Xa w.heap.size w s.size (Z5 (d+1) s.data.toList a)):=by
 have q:=hdq (fun W=> rG d hd ih s a W hs o hc);have f:=nf (d:=d) (Md o hc);rw[f];clear f
 repeat rw[if_neg (by decide)]
 try rw[if_pos rfl]
 clear ih;go_enter func176,ntmps176;go_wp2_with fail;refine(q.out _).mono ?_;intro e z i;obtain⟨t,l,k,n,m,j,g,rfl,hF,c,p⟩:=i.on;obtain⟨r,u,A,C,B,D⟩:=own3 c.newBlk;have y:=c.size_alloc;have x:=((xr w).alloc (.cells #[.int .i64 0,.int .i64 0,.slice none 0 0] 25)).trans c;have b:j2 (w.heap.size+1) z t (.agg #[.int .i64 l,.int .i64 k,.slice n m j]):=by simpa using hF
 clear i hF;go_wp2_with fail;exact aO (v:= .tuple #[.agg #[.int .i64 l,.int .i64 k,.slice n m j],.int .i64 g]) (by simp[aQ,results176,go_sem,r,u,A]) rfl ⟨t,_,g,rfl,(((b.set (by simp) _).set (by simp) _).set (by simp) _).since (by omega),((x.setCell (by simp) _).setCell (by simp) _).setCell (by simp) _,p.out.1,p.out.2⟩
theorem kH(d:Nat)(hd:d<=30)(ih:Vc d)(s:ByteArray)(a:Nat)(w:aK)(hs:s.size<=1000000000)(o:a < s.size)(hc:s[a]=40):
 aV prog 176 #[.string s,.int .i64 a,.int .i64 ((d:Int)+1)] w (Xa w.heap.size w s.size (Z5 (d+1) s.data.toList a)):=by
 have q:=hdq (fun W=> rz d ih s a W hs o);have f:=nf (d:=d) (Md o hc);rw[f];clear f
 repeat rw[if_neg (by decide)]
 try rw[if_pos rfl]
 clear ih;go_enter func176,ntmps176;go_wp2_with fail;refine(q.out _).mono ?_;intro e z i;obtain⟨t,l,k,n,m,j,g,rfl,hF,c,p⟩:=i.on;obtain⟨r,u,A,C,B,D⟩:=own3 c.newBlk;have y:=c.size_alloc;have x:=((xr w).alloc (.cells #[.int .i64 0,.int .i64 0,.slice none 0 0] 25)).trans c;have b:j2 (w.heap.size+1) z t (.agg #[.int .i64 l,.int .i64 k,.slice n m j]):=by simpa using hF
 clear i hF;go_wp2_with fail;exact aO (v:= .tuple #[.agg #[.int .i64 l,.int .i64 k,.slice n m j],.int .i64 g]) (by simp[aQ,results176,go_sem,r,u,A]) rfl ⟨t,_,g,rfl,(((b.set (by simp) _).set (by simp) _).set (by simp) _).since (by omega),((x.setCell (by simp) _).setCell (by simp) _).setCell (by simp) _,p.out.1,p.out.2⟩
end Go.Proofs.YtckhbnmfnpolgaaGreat
namespace Go.Proofs.YtckhbnmfnpolgaaGreat
open Go.RowKit
attribute [local go_sem ↓] cM cN
theorem Ug{t:Tr}(h:j0 m0 t=true):cnt t<=400/\D0 m0 t 30=true:=by
 unfold j0 at h;rw[aW] at h;exact⟨of_decide_eq_true h.2,h.1⟩
end Go.Proofs.YtckhbnmfnpolgaaGreat
namespace Go.Proofs.YtckhbnmfnpolgaaGreat
open Go Go.RowKit
def Pq(P:eP)(ops:Array Oper)(Q:Exit->Act->aK->Prop)(S:aK->Prop)(f:Nat)(l:Array Bool)(w:aK):List Nat->Act->Prop
 | [],a=> wpAnyH P .any ops Q S f l a w
 |i::is,a=> ∃o v,ops[i]? =some o/\YieldsIf P ops S o v a/\Pq P ops Q S f l w is (a.put o.dst v)
def Lm(ops:Array Oper):Array Bool->List Nat->Bool
 |_, []=> true
 |l,i::is=>((ops[i]?).bind (·.dst)).isSome && Region.free .any ops l i &&(Region.ready .any ops l).contains i && Lm ops (l.setIfInBounds i true) is
theorem Pq.run{P:eP}{ops:Array Oper}{Q:Exit->Act->aK->Prop}{S:aK->Prop}{f:Nat}{j:Array Bool}{w:aK}(hn:Region.noSelect ops=true)(g: ∀d v c a w,Q (.panic c) (a.put (some d) v) w->Q (.panic c) a w)(hS:S w):
 ∀(is:List Nat) (l:Array Bool) (a:Act),Lm ops l is=true->is.foldl (fun l i=> l.setIfInBounds i true) l=j->Pq P ops Q S f j w is a->wpAnyH P .any ops Q S (f+is.length) l a w
 | [],l,a,_,hl,h=> by subst hl;exact h
 |i::is,l,a,b,hl,h=> by
  obtain⟨o,v,e,k,m⟩:=h;unfold Lm at b;simp only[aW] at b;obtain⟨d,hd⟩:=Option.isSome_iff_exists.1 b.1.1.1;rw[e] at hd;exact wpAnyH_take e hn b.1.1.2 b.1.2 (fun c a w=> by rw[show o.dst=some d from hd];exact g _ _ c a w) k hS (Pq.run hn g hS is _ _ b.2 hl m)
theorem W2{P:eP}{ops:Array Oper}{Q:Exit->Act->aK->Prop}{S:aK->Prop}{w:aK}{l:Array Bool}{a:Act}{fuel:Nat}(is:List Nat)(f:Nat)(hc:(Region.noSelect ops && Lm ops l is && fuel==f+is.length)=true)(hS:S w)
 (e: ∀d v c a w,Q (.panic c) (a.put (some d) v) w->Q (.panic c) a w) (h:Pq P ops Q S f (is.foldl (fun l i=> l.setIfInBounds i true) l) w is a):wpAnyH P .any ops Q S fuel l a w:=by
 simp only[aW,beq_iff_eq] at hc;obtain⟨⟨b,g⟩,rfl⟩:=hc;exact Pq.run b e hS is l a g rfl h
theorem tk{P:eP}{ops:Array Oper}{Q:Exit->Act->aK->Prop}{S:aK->Prop}{f:Nat}{l:Array Bool}{w:aK}{i:Nat}{is:List Nat}{a:Act}{o:Oper}{v:aS}(c:ops[i]? =some o)(b:Region.wanted o (yielded ops a.tmps)=true)(d: ∀w,S w->(execOp a.eval o).run P w= .ok (.value v) w)
 (h:Pq P ops Q S f l w is (a.put o.dst v)):Pq P ops Q S f l w (i::is) a:=⟨o,v,c,.inl ⟨b,d⟩,h⟩
theorem H0{P:eP}{ops:Array Oper}{Q:Exit->Act->aK->Prop}{S:aK->Prop}{w:aK}{l:Array Bool}{a:Act}{f:Nat}{o:Oper}(i:Nat)(hr:Region.ready .any ops l= [i])(c:ops[i]? =some o)(b:o.guard=none)
 (h: ∀K:Act->aK->Prop,Shut (∀a w,S w->(S w->wpAnyH P .any ops Q S f (l.setIfInBounds i true) a w)->K a w)->o.wp P a w K Q):wpAnyH P .any ops Q S (f+1) l a w:=by
 refine wpAnyH_ready hr (by simp) (AllReadyH.cons c (fun K hK=> ?_) AllReadyH.nil);rw[if_pos (by unfold Region.wanted;rw[b])];exact h K hK
theorem I3:(∀(a:Act) (d:Tmp) (v:aS),a.put (some d) v={a with tmps:=a.tmps.setIfInBounds d v})/\(∀(a:Act) (v:aS),a.put none v=a)/\(∀(l:List aS) (i:Nat) (x:aS),l.toArray.setIfInBounds i x=(l.set i x).toArray)/\(∀(l:List Oper) (i:Nat) (h:i < l.toArray.size),l.toArray[i]'h=l[i]'(by simpa using h))/\(∀(x y:aS) (l:List aS),(x::l).set 0 y=y::l)/\(∀(x y:aS) (l:List aS) (n:Nat),(x::l).set (n+1) y=x::l.set n y)/\(∀(x:Oper) (l:List Oper),(x::l)[0]=x)/\ ∀(x:Oper) (l:List Oper) (i:Nat) (h:i+1 <(x::l).length),(x::l)[i+1]=l[i]'(by simpa using h):=
 ⟨fun _ _ _=> rfl,fun _ _=> rfl,fun _ _ _=> by simp,fun _ _ _=> by simp,fun _ _ _=> rfl,fun _ _ _ _=> rfl,fun _ _=> rfl,fun _ _ _ _=> rfl⟩
end Go.Proofs.YtckhbnmfnpolgaaGreat
namespace Go.Proofs.YtckhbnmfnpolgaaGreat
open Go.RowKit
theorem oH(d:Nat)(hd:d<=30)(ih:Vc d)(s:ByteArray)(a:Nat)(w:aK)(hs:s.size<=1000000000)(O:a < s.size)(hc:s[a]=91):
 aV prog 176 #[.string s,.int .i64 a,.int .i64 ((d:Int)+1)] w (Xa w.heap.size w s.size (Z5 (d+1) s.data.toList a)):=by
 have C:Z5 (d+1) s.data.toList a=vx (Z5 d s.data.toList) s.data.toList (a+1):=by rw[nf (Md O hc)];rfl
 rw[C];clear C;have U:=hdq (fun(a:Nat) (A:Int) (hA:A=a) W (O:a<=s.size+2)=>(show aV prog 176 #[.string s,.int .i64 A,.int .i64 d] W (Xa W.heap.size W s.size (Z5 d s.data.toList a)) from by subst hA;exact ih s a W hs O));obtain⟨F,hF⟩: ∃F,F=Z5 d s.data.toList:=⟨_,rfl⟩;rw[<-hF] at U⊢;have S:vx F s.data.toList (a+1)=match F (a+1) with
  |none=> none
  |some (x,b)=> if s.data.toList[b]? =some 93 then(match F (b+1) with|none=> none|some (y,c)=> some (.mk 4 0 [x,y],c)) else none:=rfl
 obtain⟨R,hR⟩: ∃R,R=vx F s.data.toList (a+1):=⟨_,rfl⟩;rw[<-hR] at S⊢;have HD:=hdq S;clear hR ih hF S;go_enter func176,ntmps176;go_wp2_with fail;refine(U.out (a+1) _ (by omega) _ (by omega)).mono ?_;rintro e J ⟨t,u,nx,rfl,hF,e1,p,o⟩;obtain⟨H,n0,E,I,D,rfl⟩:=hF.three;have hb:=e1.newBlk;have n:=e1.size_alloc;have V:=((xr w).alloc (.cells #[.int .i64 0,.int .i64 0,.slice none 0 0] 25)).trans e1;have hx1:=V.trans ((xr J).alloc (.cells #[.int .i64 H,.int .i64 n0,.slice E I D] 25));have T9:=hF.ext ((xr J).alloc (.cells #[.int .i64 H,.int .i64 n0,.slice E I D] 25));simp only[World.size_alloc] at T9;have l:=((xr J).alloc (.cells #[.int .i64 H,.int .i64 n0,.slice E I D] 25)).blk hb;have Jv:=aR J (.cells #[.int .i64 H,.int .i64 n0,.slice E I D] 25);cases i:F (a+1) with
 |none=>
  obtain rfl:=o i;have P:=HD.out;rw[i] at P;have HR:=hdq P;obtain⟨r,q,B,f0,f1,f2⟩:=own3 l;clear p o P i n;go_wp2_with fail;exact aO (v:= .tuple #[.agg #[.int .i64 0,.int .i64 0,.slice none 0 0],.int .i64 (-1)]) (by simp[aQ,results176,go_sem,r,q,B]) rfl (pr _ _ _ _ _ HR.out (((hx1.setCell (by simp) _).setCell (by simp) _).setCell (by simp) _))
 |some y=>
  obtain⟨x,b⟩:=y;obtain⟨h1,h2,h3⟩:=p _ i;simp only at h1 h2 h3;have k:=HD.out;rw[i] at k;simp only at k;subst h1 h2;clear p o i;have t0:decide ((b:Int) < 0)=false:=decide_eq_false (by omega);by_cases X:b < s.size
  · obtain⟨c,Q⟩: ∃c,s[b]=c:=⟨_,rfl⟩
    rw[Md X Q] at k;have hbz:(b:Int) <(s.size:Int):=by omega
    have t1:decide ((s.size:Int)<=(b:Int))=false:=decide_eq_false (by omega);obtain⟨m,hm⟩: ∃m,c.toNat=m:=⟨_,rfl⟩;by_cases f:c=93
    · have Es:m=93:=by rw[<-hm,f];rfl
      rw[if_pos (by rw[f])] at k;subst Es;have Bp:=hdq k;clear k f;go_wp2_with fail;refine(U.out (b+1) _ (by omega) _ (by omega)).mono ?_;rintro e G ⟨t',u',Hq,rfl,z,K,p,o⟩;obtain⟨Y,n1,A1,N,M,rfl⟩:=z.three;have Z:=K.size_alloc;have L:=K.trans ((xr G).alloc (.cells #[.int .i64 Y,.int .i64 n1,.slice A1 N M] 25));have T:=L.blk l;have rf:=L.blk Jv;have R4:=aR G (.cells #[.int .i64 Y,.int .i64 n1,.slice A1 N M] 25);obtain⟨x0,x1,x2,-,-,-⟩:=own3 rf;have hx2:=hx1.trans L;have hF2:=T9.ext L;have se:=(z.ext ((xr G).alloc (.cells #[.int .i64 Y,.int .i64 n1,.slice A1 N M] 25))).since (show w.heap.size+1<=_ by simp;omega);have ah:=hdq p;have aj:=hdq o;clear p o Z;go_wp2_with fail;refine(Yu (w.heap.size+1) _ 4 _ 2 [t,t'] (by intro h;cases h) (Mb.two (g:=G.heap.size+1) (e:=25) hF2 se (by have:=K.size_alloc;simp;omega) (by simp)) (by have:=K.size_alloc;simp;omega) (by simp)).mono ?_;rintro e w3 ⟨v,rfl,hN,e3⟩;obtain⟨k3,n3,A3,l3,c3,rfl⟩:=hN.three;obtain⟨z0,z1,z2,g0,g1,g2⟩:=own3 (e3.blk (((xr _).alloc _).blk T));have hx3:=hx2.trans (((xr _).alloc _).trans e3);clear x0 x1 x2;go_wp2_with fail;refine aO (v:= .tuple #[.agg #[.int .i64 k3,.int .i64 n3,.slice A3 l3 c3],.int .i64 Hq]) (by simp[aQ,results176,go_sem,z0,z1,z2]) rfl ⟨_,_,_,rfl,(((hN.set (by simp) _).set (by simp) _).set (by simp) _).since (by omega),((hx3.setCell (by simp) _).setCell (by simp) _).setCell (by simp) _, ?_, ?_⟩
      · intro x hx
        rw[Bp.out] at hx;cases j:F (b+1) with
        |none=> rw[j] at hx;cases hx
        |some y2=>
         rw[j] at hx;cases hx
         obtain⟨g1,g2,g3⟩:=ah.out _ j;exact⟨by rw[g1],g2,g3⟩
      · intro hx
        rw[Bp.out] at hx;cases j:F (b+1) with
        |none=> exact aj.out j
        |some y2=> rw[j] at hx;cases hx
    · rw[if_neg (by intro h;cases h;exact f rfl)] at k
      have HR:=hdq k;have t7:((m:Int) !=93)=true:=by rw[bne_iff_ne];intro h;exact f (UInt8.toNat_inj.1 (by rw[hm];simp;omega))
      obtain⟨r,q,B,f0,f1,f2⟩:=own3 l;clear k f n;go_wp2_with fail;exact aO (v:= .tuple #[.agg #[.int .i64 0,.int .i64 0,.slice none 0 0],.int .i64 (-1)]) (by simp[aQ,results176,go_sem,r,q,B]) rfl (pr _ _ _ _ _ HR.out (((hx1.setCell (by simp) _).setCell (by simp) _).setCell (by simp) _))
  · rw[Po s (by omega),if_neg (by simp)] at k
    have HR:=hdq k;have t1:decide ((s.size:Int)<=(b:Int))=true:=decide_eq_true (by omega);obtain⟨r,q,B,f0,f1,f2⟩:=own3 l;clear k n;go_wp2_with fail;exact aO (v:= .tuple #[.agg #[.int .i64 0,.int .i64 0,.slice none 0 0],.int .i64 (-1)]) (by simp[aQ,results176,go_sem,r,q,B]) rfl (pr _ _ _ _ _ HR.out (((hx1.setCell (by simp) _).setCell (by simp) _).setCell (by simp) _))
theorem kl{c:UInt8}{p:Nat}{v:UInt8}(a:c.toNat=p)(h:c≠v):((p:Int)==(v.toNat:Int))=false:=by
 rw[beq_eq_false_iff_ne];intro e;exact h (UInt8.toNat_inj.1 (by rw[a];omega))
theorem PF(d:Nat)(hd:d<=30)(s:ByteArray)(a:Nat)(w:aK)(hs:s.size<=1000000000)(F:a < s.size)(c:UInt8)(hc:s[a]=c)
 (i:c≠35) (o:c≠42) (q:c≠78) (l:c≠48) (j:c≠43) (r:c≠33) (m:c≠94) (k:c≠95) (n:c≠40) (f:c≠91) (hk:Sk c=0):
 aV prog 176 #[.string s,.int .i64 a,.int .i64 ((d:Int)+1)] w (Xa w.heap.size w s.size (Z5 (d+1) s.data.toList a)):=by
 have I:=hdq (fun W=> yH d hd s a W hs F c hc hk);have g:=nf (d:=d) (Md F hc);rw[if_neg i,if_neg o,if_neg q,if_neg l,if_neg j,if_neg r,if_neg m,if_neg k,if_neg n,if_neg f] at g;rw[g];obtain⟨p,b⟩: ∃p,c.toNat=p:=⟨_,rfl⟩;have t1:((p:Int)==35)=false:=kl b i;have t2:((p:Int)==42)=false:=kl b o;have S:((p:Int)==78)=false:=kl b q;have V:((p:Int)==48)=false:=kl b l;have P:((p:Int)==43)=false:=kl b j;have Z:((p:Int)==33)=false:=kl b r;have Q:((p:Int)==94)=false:=kl b m;have U:((p:Int)==95)=false:=kl b k;have X:((p:Int)==40)=false:=kl b n;have H:((p:Int)==91)=false:=kl b f;clear g i o q l j r m k n f hk;go_enter func176,ntmps176;go_wp2_with fail;refine(I.out _).mono ?_;intro e N z;obtain⟨t,C,B,E,D,A,y,rfl,hF,x,G⟩:=z.on;obtain⟨J,K,O,T,R,Y⟩:=own3 x.newBlk;have M:=x.size_alloc;have L:=((xr w).alloc (.cells #[.int .i64 0,.int .i64 0,.slice none 0 0] 25)).trans x;have u:j2 (w.heap.size+1) N t (.agg #[.int .i64 C,.int .i64 B,.slice E D A]):=by simpa using hF
 clear z hF;go_wp2_with fail;exact aO (v:= .tuple #[.agg #[.int .i64 C,.int .i64 B,.slice E D A],.int .i64 y]) (by simp[aQ,results176,go_sem,J,K,O]) rfl ⟨t,_,y,rfl,(((u.set (by simp) _).set (by simp) _).set (by simp) _).since (by omega),((L.setCell (by simp) _).setCell (by simp) _).setCell (by simp) _,G.out.1,G.out.2⟩
theorem XE(s:ByteArray)(a:Nat)(w:aK):aV prog 176 #[.string s,.int .i64 a,.int .i64 0] w (Xa w.heap.size w s.size none):=by
 go_enter func176,ntmps176;go_wp2_with fail;exact aO (v:= .tuple #[.agg #[.int .i64 0,.int .i64 0,.slice none 0 0],.int .i64 (-1)]) (by simp[aQ,results176,go_sem]) rfl (pr _ _ _ _ _ rfl ((xr w).alloc _))
theorem JD(d:Nat)(hd:d<=30)(s:ByteArray)(a:Nat)(w:aK)(hs:s.size<=1000000000)(b:s.size<=a):aV prog 176 #[.string s,.int .i64 a,.int .i64 ((d:Int)+1)] w (Xa w.heap.size w s.size none):=by
 have t0:decide ((a:Int) < 0)=false:=decide_eq_false (by omega);have t1:decide ((s.size:Int)<=(a:Int))=true:=decide_eq_true (by omega);go_enter func176,ntmps176;go_wp2_with fail;exact aO (v:= .tuple #[.agg #[.int .i64 0,.int .i64 0,.slice none 0 0],.int .i64 (-1)]) (by simp[aQ,results176,go_sem]) rfl (pr _ _ _ _ _ rfl ((xr w).alloc _))
theorem dA: ∀d:Nat,d<=30->Vc d
 |0,_=> fun s a w hs x=> XE s a w
 |d+1,hd=> by
  have ih:=dA d (by omega);intro s a w hs x;rw[show((d+1:Nat):Int)=(d:Int)+1 by omega];have e:d<=30:=by omega
  rcases Nat.lt_or_ge a s.size with b|v
  · obtain⟨c,hc⟩: ∃c,s[a]=c:=⟨_,rfl⟩
    by_cases i:c=35
    · exact bF d e s a w hs b (by rw[hc,i])
    by_cases m:c=42
    · exact pG d e s a w hs b (by rw[hc,m])
    by_cases j:c=78
    · exact SE d e s a w hs b (by rw[hc,j])
    by_cases u:c=48
    · exact IE d e s a w hs b (by rw[hc,u])
    by_cases r:c=43
    · exact FH d e ih s a w hs b (by rw[hc,r])
    by_cases t:c=33
    · exact xF d e ih s a w hs b (by rw[hc,t])
    by_cases o:c=94
    · exact WF d e ih s a w hs b (by rw[hc,o])
    by_cases l:c=95
    · exact ME d e ih s a w hs b (by rw[hc,l])
    by_cases q:c=40
    · exact kH d e ih s a w hs b (by rw[hc,q])
    by_cases p:c=91
    · exact oH d e ih s a w hs b (by rw[hc,p])
    by_cases n:c=60
    · exact OE d e ih s a w hs b (by rw[hc,n])
    by_cases g:c=123
    · exact jH d e ih s a w hs b (by rw[hc,g])
    by_cases f:c=124
    · exact NH d e ih s a w hs b (by rw[hc,f])
    by_cases k:c=64
    · exact QF d e ih s a w hs b (by rw[hc,k])
    exact PF d e s a w hs b c hc i m j u r t o l q p (by unfold Sk;rw[if_neg n,if_neg g,if_neg f,if_neg k])
  · rw[LB (Po s v)]
    exact JD d e s a w hs v
end Go.Proofs.YtckhbnmfnpolgaaGreat
namespace Go.Proofs.YtckhbnmfnpolgaaGreat
open Go.RowKit
attribute [local go_sem ↓] cM cN
def fo(W w:aK)(e:TypeId)(v:aS)(c:List Tr):Prop:= ∃a,w.ownsRow W.heap.size e 3 v c.length a/\W0 w (fun b=> b < W.heap.size) a c
theorem fo.nil(W w:aK)(e:TypeId):fo W w e (.slice none 0 0) []:=⟨[],fQ _ _ _ _,W0.nil⟩
theorem fo.lt{W w:aK}{e:TypeId}{v:aS}{c:List Tr}(h:fo W w e v c){g:Nat}(a:v.ownBlock=some g):W.heap.size<=g/\g < w.heap.size:=by
 obtain⟨d,b,f⟩:=h;exact b.lt g a
theorem aF{k n i:Int}{a:List Tr}{q:List Int}:ea (.mk k n a) (i::q)=if 0<=i/\i < a.length then ea (kd a i.toNat) q else none:=by rw[ea]
end Go.Proofs.YtckhbnmfnpolgaaGreat
namespace Go.Proofs.YtckhbnmfnpolgaaGreat
open Go.RowKit
theorem Iv(l:List UInt8):(S5 l).toList=l:=by rw[ByteArray.toList_eq,cA]
theorem xE{l:List UInt8}{t:Tr}{b:Nat}(h:Z5 30 l 0=some (t,b)):kc l=if l≠ []/\b=l.length/\vf t=l then some t else none:=by
 unfold kc;rw[h]
theorem nE{l:List UInt8}(h:Z5 30 l 0=none):kc l=none:=by
 unfold kc;rw[h]
theorem aH(s:ByteArray)(w:aK)(hs:s.size<=1000000000):aV prog 134 #[.string s] w fun e w'=> ∃u,e= .returned (.tuple #[u,.bool (kc s.data.toList).isSome])/\j2 w.heap.size w' ((kc s.data.toList).getD (.mk 0 0 [])) u/\Ext w w':=by
 have L:=hdq (fun W=>(show aV prog 176 #[.string s,.int .i64 0,.int .i64 30] W (Xa W.heap.size W s.size (Z5 30 s.data.toList 0)) from dA 30 (by omega) s 0 W hs (by omega)));have c:s.data.toList.length=s.size:=by rw[Array.length_toList];rfl
 have o:=ByteArray.toList_eq s;obtain⟨R,p⟩: ∃R,R=kc s.data.toList:=⟨_,rfl⟩;rw[<-p];obtain⟨F,m⟩: ∃F,F=Z5 30 s.data.toList 0:=⟨_,rfl⟩;rw[<-m] at L;cases F with
 |none=>
  have D:R=none:=by rw[p];exact nE m.symm
  have HR:=hdq D;obtain⟨N,C⟩: ∃N,s.toList.isEmpty=N:=⟨_,rfl⟩;have Ij:(s.toList== [])=N:=by rw[<-C];cases s.toList <;> rfl
  have t1:((-1:Int) !=(s.size:Int))=true:=by rw[bne_iff_ne];omega
  clear p m c o D;cases N
  all_goals(
   go_enter func134,ntmps134;go_wp2_with fail;refine(L.out _).mono ?_;rintro e k ⟨t,u,V,rfl,hF,n,-,q2⟩;obtain rfl:=q2 rfl;obtain⟨i,n0,g,j,d,rfl⟩:=hF.three;have hx1:=(((xr w).alloc (.cells #[.int .i64 0,.int .i64 0,.slice none 0 0] 25)).trans n).trans ((xr k).alloc (.cells #[.int .i64 i,.int .i64 n0,.slice g j d] 25));have a:=((xr k).alloc (.cells #[.int .i64 i,.int .i64 n0,.slice g j d] 25)).blk n.newBlk;obtain⟨r,q,x,f0,Z,U⟩:=own3 a;clear a q2;go_wp2_with fail;exact aO (v:= .tuple #[.agg #[.int .i64 0,.int .i64 0,.slice none 0 0],.bool false]) (by simp[aQ,results134,go_sem,r,q,x]) rfl ⟨_,by rw[HR.out];rfl,by rw[HR.out];exact j2.leaf _ _ _ _,((hx1.setCell (by simp) _).setCell (by simp) _).setCell (by simp) _⟩)
 |some y=>
  obtain⟨t,b⟩:=y;have z:R=if s.data.toList≠ []/\b=s.data.toList.length/\vf t=s.data.toList then some t else none:=by rw[p];exact xE m.symm
  have f:s.data.toList≠ []:=by
   intro h;rw[h] at m;rw[LB (by simp)] at m;cases m
  have C:s.toList.isEmpty=false:=by rw[o];cases l:s.data.toList with|nil=> exact absurd l f|cons=> rfl
  have Ij:(s.toList== [])=false:=by rw[o];cases l:s.data.toList with|nil=> exact absurd l f|cons=> rfl
  have hbe3: ¬(s.toList= []):=by rw[o];exact f
  rw[c] at z;by_cases I:b=s.size
  · obtain⟨fv,S⟩: ∃fv,fv=vf t:=⟨_,rfl⟩
    rw[<-S] at z;have HF:=hdq (fun W v (h:Lies W t v)=> vH t W v h);rw[<-S] at HF;have t1:((b:Int) !=(s.size:Int))=false:=by simp[I]
    obtain⟨K,A⟩: ∃K,((S5 fv).toList==s.toList)=K:=⟨_,rfl⟩;have G:R=if K=true then some t else none:=by
     rw[z,<-A,Iv,o];by_cases l:fv=s.data.toList
     · rw[if_pos ⟨f,I,l⟩,if_pos (by rw[l];simp)]
     · rw[if_neg (fun h=> l h.2.2),if_neg (by simpa using l)]
    have HR:=hdq G;have P:=hdq A;clear p m z f o S G c I;go_enter func134,ntmps134;go_wp2_with fail;refine(L.out _).mono ?_;rintro e k ⟨Y,u,V,rfl,hF,n,H,-⟩;obtain⟨E,B,T⟩:=H _ rfl;simp only at E B T;subst E B;obtain⟨i,n0,g,j,d,rfl⟩:=hF.three;have O:=n.size_alloc;have hx1:=(((xr w).alloc (.cells #[.int .i64 0,.int .i64 0,.slice none 0 0] 25)).trans n).trans ((xr k).alloc (.cells #[.int .i64 i,.int .i64 n0,.slice g j d] 25));have a:=((xr k).alloc (.cells #[.int .i64 i,.int .i64 n0,.slice g j d] 25)).blk n.newBlk;have X:=aR k (.cells #[.int .i64 i,.int .i64 n0,.slice g j d] 25);have J:j2 (w.heap.size+1) (k.alloc (.cells #[.int .i64 i,.int .i64 n0,.slice g j d] 25)) Y (.agg #[.int .i64 i,.int .i64 n0,.slice g j d]):=by simpa using hF.ext ((xr k).alloc (.cells #[.int .i64 i,.int .i64 n0,.slice g j d] 25))
    clear hF O H;go_wp2_with fail;refine(HF.out _ _ J.lies).mono ?_;rintro e w2 ⟨rfl,M⟩;have hx2:=hx1.trans M;have Q:=J.ext M;obtain⟨r,q,x,f0,Z,U⟩:=own3 (M.blk a);obtain⟨x0,x1,x2,-,-,-⟩:=own3 (M.blk X);have l:=P.out;clear a X;cases K with
    |false=>
     go_wp2_with fail;exact aO (v:= .tuple #[.agg #[.int .i64 0,.int .i64 0,.slice none 0 0],.bool false]) (by simp[aQ,results134,go_sem,r,q,x]) rfl ⟨_,by rw[HR.out];rfl,by rw[HR.out];exact j2.leaf _ _ _ _,((hx2.setCell (by simp) _).setCell (by simp) _).setCell (by simp) _⟩
    |true=>
     go_wp2_with fail;exact aO (v:= .tuple #[.agg #[.int .i64 i,.int .i64 n0,.slice g j d],.bool true]) (by simp[aQ,results134,go_sem,r,q,x]) rfl ⟨_,by rw[HR.out];rfl,by rw[HR.out];exact(((Q.set (by simp) _).set (by simp) _).set (by simp) _).since (by omega),((hx2.setCell (by simp) _).setCell (by simp) _).setCell (by simp) _⟩
  · have D:R=none:=by rw[z,if_neg (fun h=> I h.2.1)]
    have HR:=hdq D;have t1:((b:Int) !=(s.size:Int))=true:=by rw[bne_iff_ne];omega
    clear p m z f o D c I;go_enter func134,ntmps134;go_wp2_with fail;refine(L.out _).mono ?_;rintro e k ⟨Y,u,V,rfl,hF,n,H,-⟩;obtain⟨E,B,T⟩:=H _ rfl;simp only at E B T;subst E B;obtain⟨i,n0,g,j,d,rfl⟩:=hF.three;have hx1:=(((xr w).alloc (.cells #[.int .i64 0,.int .i64 0,.slice none 0 0] 25)).trans n).trans ((xr k).alloc (.cells #[.int .i64 i,.int .i64 n0,.slice g j d] 25));have a:=((xr k).alloc (.cells #[.int .i64 i,.int .i64 n0,.slice g j d] 25)).blk n.newBlk;obtain⟨r,q,x,f0,Z,U⟩:=own3 a;clear a H;go_wp2_with fail;exact aO (v:= .tuple #[.agg #[.int .i64 0,.int .i64 0,.slice none 0 0],.bool false]) (by simp[aQ,results134,go_sem,r,q,x]) rfl ⟨_,by rw[HR.out];rfl,by rw[HR.out];exact j2.leaf _ _ _ _,((hx1.setCell (by simp) _).setCell (by simp) _).setCell (by simp) _⟩
end Go.Proofs.YtckhbnmfnpolgaaGreat
namespace Go.Proofs.YtckhbnmfnpolgaaGreat
open Go.RowKit
attribute [local go_sem ↓] cM cN
def dd(t:Tr):List Int:=(outT t).getD []
def sG(t:Tr):Prop:= ∀(w:aK) (v:aS) (d:Int),D0 m0 t d=true->Lies w t v->d<=1000->aV prog 97 #[v] w fun e a=> ∃x,e= .returned (.tuple #[x,.bool (outT t).isSome])/\a.ownsRow w.heap.size 3 1 x (dd t).length ((dd t).map (Value.int .i64))/\Ext w a
theorem CE: ∀t:Tr,sG t:=Tr.ind fun k n a hk=> by
 intro w v d hsh Y hd;have HR:=hdq (fun V (S:Ext w V)=> Sq (.mk k n a) d hsh V v (Y.ext S));have U:=Tu (.mk k n a) d hsh;obtain⟨-,-,-,K⟩:=Qu hsh;obtain⟨A,cap,rfl,hl,hc,hK⟩:=Lies.mk_iff.1 Y;obtain⟨i0,hi,X,T,N⟩:=info_parts oC;have O:=hc;unfold maxLen at O;have m:outT (.mk k n a)=if rdx k a=0 then pc 0 a else some []:=by rw[outT]
 have f:=(xr w).alloc (.cells #[.int .i64 k,.int .i64 n,.slice A a.length cap] 25);have P:=aR w (.cells #[.int .i64 k,.int .i64 n,.slice A a.length cap] 25);obtain⟨r,hr⟩: ∃r,rdx k a=r:=⟨_,rfl⟩;have R:=hdq (show∀V,Ext w V->aV prog 133 #[.agg #[.int .i64 k,.int .i64 n,.slice A a.length cap]] V fun e w'=> e= .returned (.int .i64 r)/\Ext V w' from fun V S=> by have:=HR.out V S;rw[show U3 (.mk k n a)=r from hr] at this;exact this);rw[hr] at m;clear hr HR;by_cases D:r=0
 · rw[if_pos D] at m
   have M:(r !=0)=false:=by rw[D];rfl
   subst D;have l:=hdq m;clear m Y;go_enter func97,ntmps97;go_wp2_with fail;refine(R.out _ f).mono ?_;rintro e w1 ⟨rfl,y⟩;obtain⟨z0,z1,z2,-,-,-⟩:=own3 (y.blk P);have lz:=O1 (y.blk P);have hx1:=f.trans y;clear P y f R;go_wp2_with fail;clear z0 z1 z2 lz
   go_loopw [14] (fun i wr=> ∃(j:Nat),j<=a.length/\i= .int .i64 j/\Hid (pc 0 a=pc j (a.drop j))/\Ext w wr) (fun i _=> a.length -(intOf i).toNat)
   case atStart=> exact⟨0,Nat.zero_le _,rfl,hdq rfl,hx1⟩
   case round=>
    obtain⟨j,hj',rfl,J,hx⟩:=hrel;by_cases E:j < a.length
    · obtain⟨b,o,z,s,A',B,kids,rfl,HK,c0,c1,c2,G7,G0,hK',u6,W⟩:=hK.get hx E
      have c:pc j (a.drop j)=match outT (.mk z s kids) with|some p=> some ((j:Int)::p) |none=> pc (j+1) (a.drop (j+1)):=by
       rw[List.drop_eq_getElem_cons E,HK.out];conv=> lhs;unfold pc
       rfl
      have L:=Tu (.mk z s kids) (d - 1) (K _ W);have Z:=(xr wr).alloc (.cells #[.int .i64 z,.int .i64 s,.slice A' kids.length B] 25);have G:=hdq (hk _ W _ _ (d - 1) (K _ W) (u6.ext Z) (by omega));have H:dd (.mk z s kids)=(outT (.mk z s kids)).getD []:=rfl;rw[H] at G;clear H;generalize outT (.mk z s kids)=q at c L G;have oy:(j:Int) <(a.length:Int):=by omega
      clear U u6;go_wp2_with fail;refine G.out.mono ?_;rintro e u ⟨x,rfl,C,h2⟩;have hx2:=(hx.trans Z).trans h2;cases q with
      |some p=>
       have hpl:=L p rfl;simp only[Option.getD_some] at C;simp only at c;have F:=hdq ((l.out.trans J.out).trans c);have Y4:=Kw C;obtain⟨Bq,cq,rfl,-,-,-⟩:=Mr C;have hx3:=(xr u).alloc (.cells #[.int .i64 j] 3);have hG:(u.alloc (.cells #[.int .i64 j] 3)).ownsRow u.heap.size 3 1 (.slice (some ⟨u.heap.size,0,none⟩) 1 1) ([(j:Int)]).length (([(j:Int)]).map (Value.int .i64)):=World.ownsRow_lit u #[.int .i64 j] 1 (Nat.le_refl _) (by decide) rfl;have T8:=Y4.ext hx3;clear c G J l Y4 C L;go_wp2_with (at_builtin;refine mw _ rfl (.tmp 26) (.tmp 27) 93 rfl u.heap.size 3 i0 _ 8 underlying93 hi X T N (by decide) rfl (ns:= [(j:Int)]) (p:=p) rfl hG (by simp) rfl T8 (by simp;omega) ?_)
       intro va wa az Z7 jr;have jg:Ext w wa:=hx2.trans (hx3.grown Z7 (by intro g hg;simp[Value.ownBlock] at hg;omega));have Q:=hx2.size;have Y8:wa.ownsRow w.heap.size 3 1 va ((j:Int)::p).length ((((j:Int)::p)).map (Value.int .i64)):=Mw az Q;have lw:=hdq Y8;clear az Z7 jr Y8;go_wp2_with fail;go_ret2;have I:dd (.mk k n a)=(j:Int)::p:=by unfold dd;rw[F.out];rfl
       exact⟨_,by rw[F.out];rfl,by rw[I];exact lw.out,jg⟩
      |none=>
       simp only at c;have ix:=hdq (J.out.trans c);clear c G C L;go_wp2_with fail
       go_roundw
       case rel=> exact⟨j+1,by omega,by go_num,ix,hx2⟩
       case measure=> simp[intOf];omega
    · have F:=hdq ((l.out.trans J.out).trans (show pc j (a.drop j)=none by rw[List.drop_of_length_le (by omega),pc]))
      clear J l;go_wp2_with fail;go_ret2;have I:dd (.mk k n a)= []:=by unfold dd;rw[F.out];rfl
      exact⟨_,by rw[F.out];rfl,by rw[I];exact fQ _ _ _ _,hx⟩
 · rw[if_neg D] at m
   have M:(r !=0)=true:=bne_iff_ne.2 D;have l:=hdq m;clear m;go_enter func97,ntmps97;go_wp2_with fail;refine(R.out _ f).mono ?_;rintro e w1 ⟨rfl,y⟩;go_wp2_with fail;go_ret2;have I:dd (.mk k n a)= []:=by unfold dd;rw[l.out];rfl
   exact⟨_,by rw[l.out];rfl,by rw[I];exact fQ _ _ _ _,f.trans y⟩
theorem CC: ∀(a:List Int) (t u:Tr),ea t a=some u->cnt u<=cnt t
 | [],t,u,e=> by
  have e:t=u:=by cases t;simpa[ea] using e
  subst e;exact Nat.le_refl _
 |i::a,.mk k n b,u,e=> by
  rw[ea] at e
  split at e
  · rename_i hi
    have c:=CC a _ u e;have d:=L9 (Li (ks:=b) (i:=i.toNat) (by omega));rw[cnt];omega
  · cases e
theorem j2.only{B:Nat}{w d:aK}{t:Tr}{v:aS}{L:List Nat}(h:j2 B w t v)(c:X0 L w d)(e: ∀b,b∈L->b < B):j2 B d t v:=
 h.mono (fun b a=>⟨a.1,Nat.lt_of_lt_of_le a.2 c.size⟩) (fun b a=> c.block b a.2 (fun hm=> by have:=e b hm;omega))
def nd:Nat->Nat
 |0=> 3
 |d+1=> 3+4*nd d
mutual
def dT:Tr->Nat
 | .mk _ _ a=> gr a+1
def gr:List Tr->Nat
 | []=> 0
 |t::ts=> max (dT t) (gr ts)
end
theorem fk: ∀{ts:List Tr} {n:Nat},(∀t∈ts,dT t<=n)->gr ts<=n
 | [],_,_=> Nat.zero_le _
 |t::ts,n,h=> by
  have a:=h t (by simp);have b:=fk (ts:=ts) (n:=n) fun x hx=> h x (by simp[hx])
  simp only[gr];omega
theorem Wy{w:aK}{cs:Array aS}{e:TypeId}{ns:List Int}(hc:cs.toList=ns.map (Value.int .i64)):Qa (w.alloc (.cells cs e)) (some ⟨w.heap.size,0,none⟩) ns:=OG (aR w _) hc
theorem Rd.set{w:aK}{g m:Nat}(h:Rd w g m){p:Addr}(k:g < p.block)(u:aS):Rd (w.setCell p u) g m:=by
 obtain⟨A,cap,e,q,a,c,i,j,d,f⟩:=h;exact⟨A,cap,e,q,bd a (by omega) u,c,i,j,d,f.below (by simp) (fun b a _=> Below.heap_setCell w p u b (by omega))⟩
theorem X0.one(w:aK)(g i:Nat)(u:aS):X0 [g] w (w.setCell ⟨g,i,none⟩ u):=(X0.refl [g] w).setCell (by simp) u
theorem Rd.under{w c:aK}{g m B:Nat}(h:Rd w g m)(a:Below B w c)(k:g < B):Rd c g m:=by
 obtain⟨A,cap,j,q,hk,d,l,n,f,e⟩:=h;exact⟨A,cap,j,q,(a.block g k).trans hk,d,l,n,f,e.below a.size (fun b i _=> a.block b (by omega))⟩
theorem X0.keepBlk{L:List Nat}{w a:aK}{b:Nat}{x:Obj}(c:X0 L w a)(h:w.heap[b]? =some x)(hn: ¬b∈L):a.heap[b]? =some x:=(c.block b (O1 h) hn).trans h

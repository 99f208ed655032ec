/- A part of the proof. -/
import Derived.Test.YtllodfoldffonaaGreatDoorQ35
namespace Go.Proofs.YtllodfoldffonaaGreatDoor
open Go.Proofs.Tryz AM Go.RowKit
set_option linter.unusedSimpArgs false
set_option linter.unusedVariables false
set_option linter.defProp false
set_option maxRecDepth 100000
set_option maxHeartbeats 16000000
def YZ (p:Pr)(s:Sa)(f:Fn)(n m b i:Nat)(x:Fm)(bk:Bk)(B:z9 s)(K:xR p s n m x f)(hb:f.blocks[b]?=some bk)(hi:i<bk.stmts.length+1)(h:x.at_=(z6 f.blocks b:Int)+i)(V:Sa)(r:Int)(D:zK 14 [p.a,s.a] (.tup [V.a,iU r,iI 0]))(R:List Acc)
  (o:i<bk.stmts.length) (y:St) (M:bk.stmts[i]?=some y) (I:y.kind=2\/y.kind=4) (l:List Ce) (v:Bool) (F:∀d b c,zG 56 2 (λι=>[.ptr (ι 0) d 13 0 0,y.a.a]) (λι=>(xbO p ι d s r (([]:List Acc)) b c)) (λ_ _=>.tup [vCe_ l,.bool v]) (λι q=>(xxO p ι d r R ((q 1).1) ((q 1).2)))):zG 18 2 (λ_=>[p.a,s.a]) (λ_=>[]) (λι q=>.tup [.ptr (ι 0) (q 0).1 13 0 0,iI 0]) (λι q=>(xxO p ι ((q 0).1) r R ((q 1).1) ((q 1).2))):=by
 have E:=wP p s [] r n m x f B K;have g:=xC f K.fs.wf;rw[if_pos K.fs.er,K.fs.er] at g;have u:=vG hb hi;have J:=(zS.1 u).1;have e:x.at_=((z6 f.blocks b+i:Nat):Int):=by rw[h];omega
 clear h K B;generalize z6 f.blocks b+i=k at *;generalize uS f=L at *;obtain⟨xf,xa,xc,xl⟩:=x;simp only at e;subst e;obtain⟨fp,fu,fl,fb⟩:=f;simp only at hb;obtain⟨G,H⟩:=zS.1 hb;have z:(k:Int)<L.length:=om;have C:L[k]=⟨(b:Int),(i:Int)⟩:=(zS.1 u).2;obtain⟨bs,bj⟩:=bk;try simp only at *
 have w:i<bs.length:=o;have A:¬bs.length<=i:=om;obtain⟨N,O⟩:=zS.1 M;obtain⟨yk,⟨yl,yd,yf⟩,⟨rk,h5,h4,⟨T,W,⟨U,Q,S⟩⟩,⟨h1,h3,⟨h2,Y,Z⟩⟩,⟨rl,rd,rf⟩⟩,⟨ak,an,⟨al,ad,af⟩⟩,ha⟩:=y;try simp only at *
 rcases I with rfl|rfl;all_goals
  obtain⟨vp,⟨⟨va,vn⟩,vt,vr,v1,v2⟩,vf,h8,h9⟩:=V;obtain⟨sp,⟨⟨sa,sn⟩,st,sr,s1,s2⟩,sf,h6,h7⟩:=s;try simp only at *
  refine eG [5] func18 λX=>?_;go_simp;repeat'(first|(apply zd D;try go_simp)|with_reducible first|apply ai|intro)
  rename_i t;refine wR (.l 32) (.l 201) 12 6 55 rfl rfl rfl ?_;refine aO [] ?_;go_simp;refine zi [.l 32,.l 201] 2 0 (E _ 0 0) ?_;intro q1;go_simp;repeat'(first|(apply zd g;try go_simp)|with_reducible first|apply ai|intro)
  refine zi [.l 32,.l 201] 2 0 (F _ 0 0) ?_;intro P;go_simp;exact⟨[.l 32,.l 201],dk,λj=>if j=0 then(t,0) else P 1,⟨OB,OB,trivial⟩,⟨rfl,rfl⟩,rfl⟩
def Xa (p:Pr)(s:Sa)(f:Fn)(n m b i:Nat)(x:Fm)(bk:Bk)(B:z9 s)(K:xR p s n m x f)(hb:f.blocks[b]?=some bk)(hi:i<bk.stmts.length+1)(h:x.at_=(z6 f.blocks b:Int)+i)(V:Sa)(t:Int)(D:zK 14 [p.a,s.a] (.tup [V.a,iU t,iI 0]))(R:List Acc)
  (o:i<bk.stmts.length) (y:St) (M:bk.stmts[i]?=some y) (I:y.kind=1) (l:List Ce) (F:∀d b c,zG 52 2 (λι=>[.ptr (ι 0) d 13 0 0,y.r.a']) (λι=>(xbO p ι d s t (([]:List Acc)) b c)) (λ_ _=>.tup [vCe_ l,.bool false]) (λι q=>(xxO p ι d t R ((q 1).1) ((q 1).2)))):zG 18 2 (λ_=>[p.a,s.a]) (λ_=>[]) (λι q=>.tup [.ptr (ι 0) (q 0).1 13 0 0,iI 0]) (λι q=>(xxO p ι ((q 0).1) t R ((q 1).1) ((q 1).2))):=by
 have E:=wP p s [] t n m x f B K;have g:=xC f K.fs.wf;rw[if_pos K.fs.er,K.fs.er] at g;have v:=vG hb hi;have J:=(zS.1 v).1;have e:x.at_=((z6 f.blocks b+i:Nat):Int):=by rw[h];omega
 clear h K B;generalize z6 f.blocks b+i=k at *;generalize uS f=L at *;obtain⟨xf,xa,xc,xl⟩:=x;simp only at e;subst e;obtain⟨fp,fu,fl,fb⟩:=f;simp only at hb;obtain⟨G,H⟩:=zS.1 hb;have z:(k:Int)<L.length:=om;have C:L[k]=⟨(b:Int),(i:Int)⟩:=(zS.1 v).2;obtain⟨bs,bj⟩:=bk;try simp only at *
 have w:i<bs.length:=o;have A:¬bs.length<=i:=om;obtain⟨N,O⟩:=zS.1 M;obtain⟨yk,⟨yl,yd,yf⟩,⟨rk,h5,h4,⟨T,W,⟨U,Q,S⟩⟩,⟨h1,h3,⟨h2,Y,Z⟩⟩,⟨rl,rd,rf⟩⟩,⟨ak,an,⟨al,ad,af⟩⟩,ha⟩:=y;try simp only at *
 subst I;obtain⟨vp,⟨⟨va,vn⟩,vt,vr,v1,v2⟩,vf,h8,h9⟩:=V;obtain⟨sp,⟨⟨sa,sn⟩,st,sr,s1,s2⟩,sf,h6,h7⟩:=s;try simp only at *
 refine eG [5] func18 λX=>?_;go_simp;repeat'(first|(apply zd D;try go_simp)|with_reducible first|apply ai|intro)
 rename_i u;refine wR (.l 32) (.l 201) 12 6 55 rfl rfl rfl ?_;refine aO [] ?_;go_simp;refine zi [.l 32,.l 201] 2 0 (E _ 0 0) ?_;intro q1;go_simp;repeat'(first|(apply zd g;try go_simp)|with_reducible first|apply ai|intro)
 refine zi [.l 32,.l 201] 2 0 (F _ 0 0) ?_;intro P;go_simp;exact⟨[.l 32,.l 201],dk,λj=>if j=0 then(u,0) else P 1,⟨OB,OB,trivial⟩,⟨rfl,rfl⟩,rfl⟩
def bS (p:Pr)(s:Sa)(f:Fn)(n m b i:Nat)(x:Fm)(bk:Bk)(E:z9 s)(K:xR p s n m x f)(hb:f.blocks[b]?=some bk)(hi:i<bk.stmts.length+1)(o:x.at_=(z6 f.blocks b:Int)+i)(V:Sa)(g:Int)(H:zK 14 [p.a,s.a] (.tup [V.a,iU g,iI 0]))(R:List Acc)
  (t:i<bk.stmts.length) (y:St) (Q:bk.stmts[i]?=some y) (O:y.kind=1) (l:List Ce) (z:Sa) (w:List Acc) (J:∀d b c,zG 52 2 (λι=>[.ptr (ι 0) d 13 0 0,y.r.a']) (λι=>(xbO p ι d s g (([]:List Acc)) b c)) (λ_ _=>.tup [vCe_ l,.bool true]) (λι q=>(xbO p ι d z g w ((q 1).1) ((q 1).2)))) (v:∀d b c,zG 53 2 (λι=>[.ptr (ι 0) d 13 0 0,y.pl.a,vCe_ l]) (λι=>(xbO p ι d z g w b c)) (λ_ _=>.tup []) (λι q=>(xxO p ι d g R ((q 1).1) ((q 1).2)))):zG 18 2 (λ_=>[p.a,s.a]) (λ_=>[]) (λι q=>.tup [.ptr (ι 0) (q 0).1 13 0 0,iI 0]) (λι q=>(xxO p ι ((q 0).1) g R ((q 1).1) ((q 1).2))):=by
 have I:=wP p s [] g n m x f E K;have h:=xC f K.fs.wf;rw[if_pos K.fs.er,K.fs.er] at h;have A:=vG hb hi;have P:=(zS.1 A).1;have e:x.at_=((z6 f.blocks b+i:Nat):Int):=by rw[o];omega
 clear o K E;generalize z6 f.blocks b+i=k at *;generalize uS f=L at *;obtain⟨xf,xa,xc,xl⟩:=x;simp only at e;subst e;obtain⟨fp,fu,fl,fb⟩:=f;simp only at hb;obtain⟨M,N⟩:=zS.1 hb;have C:(k:Int)<L.length:=om;have G:L[k]=⟨(b:Int),(i:Int)⟩:=(zS.1 A).2;obtain⟨bs,bj⟩:=bk;try simp only at *
 have B:i<bs.length:=t;have D:¬bs.length<=i:=om;obtain⟨S,T⟩:=zS.1 Q;obtain⟨yk,⟨yl,yd,yf⟩,⟨rk,h9,h8,⟨Z,h2,⟨h1,W,Y⟩⟩,⟨h5,h7,⟨h6,h3,h4⟩⟩,⟨rl,rd,rf⟩⟩,⟨ak,an,⟨al,ad,af⟩⟩,hf⟩:=y;try simp only at *
 subst O;obtain⟨vp,⟨⟨va,vn⟩,vt,vr,v1,v2⟩,vf,hd,he⟩:=V;obtain⟨sp,⟨⟨sa,sn⟩,st,sr,s1,s2⟩,sf,ha,hc⟩:=s;try simp only at *
 refine eG [5] func18 λX=>?_;go_simp;repeat'(first|(apply zd H;try go_simp)|with_reducible first|apply ai|intro)
 rename_i u;refine wR (.l 32) (.l 201) 12 6 55 rfl rfl rfl ?_;refine aO [] ?_;go_simp;refine zi [.l 32,.l 201] 2 0 (I _ 0 0) ?_;intro q1;go_simp;repeat'(first|(apply zd h;try go_simp)|with_reducible first|apply ai|intro)
 refine zi [.l 32,.l 201] 2 0 (J _ 0 0) ?_;intro F;go_simp;refine zi [.l 32,.l 201] 2 0 (v _ (F 1).1 (F 1).2) ?_;intro U;go_simp;exact⟨[.l 32,.l 201],dk,λj=>if j=0 then(u,0) else U 1,⟨OB,OB,trivial⟩,⟨rfl,rfl⟩,rfl⟩
def bT (p:Pr)(s:Sa)(f:Fn)(n m b i:Nat)(x:Fm)(bk:Bk)(A:z9 s)(K:xR p s n m x f)(hb:f.blocks[b]?=some bk)(hi:i<bk.stmts.length+1)(o:x.at_=(z6 f.blocks b:Int)+i)(V:Sa)(t:Int)(C:zK 14 [p.a,s.a] (.tup [V.a,iU t,iI 0]))(R:List Acc)
  (g:¬i<bk.stmts.length) (H:bk.jump.kind=2) (l:List Ce) (v:Bool) (E:∀d b c,zG 56 2 (λι=>[.ptr (ι 0) d 13 0 0,bk.jump.a.a]) (λι=>(xbO p ι d s t (([]:List Acc)) b c)) (λ_ _=>.tup [vCe_ l,.bool v]) (λι q=>(xxO p ι d t R ((q 1).1) ((q 1).2)))):zG 18 2 (λ_=>[p.a,s.a]) (λ_=>[]) (λι q=>.tup [.ptr (ι 0) (q 0).1 13 0 0,iI 0]) (λι q=>(xxO p ι ((q 0).1) t R ((q 1).1) ((q 1).2))):=by
 have D:=wP p s [] t n m x f A K;have h:=xC f K.fs.wf;rw[if_pos K.fs.er,K.fs.er] at h;have w:=vG hb hi;have I:=(zS.1 w).1;have e:x.at_=((z6 f.blocks b+i:Nat):Int):=by rw[o];omega
 clear o K A;generalize z6 f.blocks b+i=k at *;generalize uS f=L at *;obtain⟨xf,xa,xc,xl⟩:=x;simp only at e;subst e;obtain⟨fp,Z,Y,fb⟩:=f;simp only at hb;obtain⟨F,G⟩:=zS.1 hb;have z:(k:Int)<L.length:=om;have B:L[k]=⟨(b:Int),(i:Int)⟩:=(zS.1 w).2;obtain⟨bs,⟨jk,⟨S,T,⟨al,ad,Q⟩⟩,jf,jn,je,args,⟨W,U,df⟩⟩⟩:=bk;try simp only at *
 have y:¬i<bs.length:=g;have r:bs.length<=i:=om;obtain rfl:i=bs.length:=om;clear g r hi;subst H;obtain⟨vp,⟨⟨va,vn⟩,vt,vr,v1,v2⟩,vf,O,P⟩:=V;obtain⟨sp,⟨⟨sa,sn⟩,st,sr,s1,s2⟩,sf,M,N⟩:=s;try simp only at *
 refine eG [5] func18 λX=>?_;go_simp;repeat'(first|(apply zd C;try go_simp)|with_reducible first|apply ai|intro)
 rename_i u;refine wR (.l 32) (.l 201) 12 6 55 rfl rfl rfl ?_;refine aO [] ?_;go_simp;refine zi [.l 32,.l 201] 2 0 (D _ 0 0) ?_;intro q1;go_simp;repeat'(first|(apply zd h;try go_simp)|with_reducible first|apply ai|intro)
 refine zi [.l 32,.l 201] 2 0 (E _ 0 0) ?_;intro J;go_simp;exact⟨[.l 32,.l 201],dk,λj=>if j=0 then(u,0) else J 1,⟨OB,OB,trivial⟩,⟨rfl,rfl⟩,rfl⟩
def Wz (p:Pr)(s:Sa)(f:Fn)(n m b i:Nat)(x:Fm)(bk:Bk)(z:z9 s)(K:xR p s n m x f)(hb:f.blocks[b]?=some bk)(hi:i<bk.stmts.length+1)(o:x.at_=(z6 f.blocks b:Int)+i)(V:Sa)(t:Int)(B:zK 14 [p.a,s.a] (.tup [V.a,iU t,iI 0]))(R:List Acc)
  (g:¬i<bk.stmts.length) (G:bk.jump.kind=4) (D:∀d b c,zG 57 2 (λι=>[.ptr (ι 0) d 13 0 0,bk.jump.a']) (λι=>(xbO p ι d s t (([]:List Acc)) b c)) (λ_ _=>.tup []) (λι q=>(xxO p ι d t R ((q 1).1) ((q 1).2)))):zG 18 2 (λ_=>[p.a,s.a]) (λ_=>[]) (λι q=>.tup [.ptr (ι 0) (q 0).1 13 0 0,iI 0]) (λι q=>(xxO p ι ((q 0).1) t R ((q 1).1) ((q 1).2))):=by
 have C:=wP p s [] t n m x f z K;have h:=xC f K.fs.wf;rw[if_pos K.fs.er,K.fs.er] at h;have v:=vG hb hi;have H:=(zS.1 v).1;have e:x.at_=((z6 f.blocks b+i:Nat):Int):=by rw[o];omega
 clear o K z;generalize z6 f.blocks b+i=k at *;generalize uS f=L at *;obtain⟨xf,xa,xc,xl⟩:=x;simp only at e;subst e;obtain⟨fp,Y,W,fb⟩:=f;simp only at hb;obtain⟨E,F⟩:=zS.1 hb;have y:(k:Int)<L.length:=om;have A:L[k]=⟨(b:Int),(i:Int)⟩:=(zS.1 v).2;obtain⟨bs,⟨jk,⟨Q,S,⟨al,ad,P⟩⟩,jf,jn,Z,args,⟨U,T,df⟩⟩⟩:=bk;try simp only at *
 have w:¬i<bs.length:=g;have r:bs.length<=i:=om;obtain rfl:i=bs.length:=om;clear g r hi;subst G;obtain⟨vp,⟨⟨va,vn⟩,vt,vr,v1,v2⟩,vf,N,O⟩:=V;obtain⟨sp,⟨⟨sa,sn⟩,st,sr,s1,s2⟩,sf,J,M⟩:=s;try simp only at *
 refine eG [5] func18 λX=>?_;go_simp;repeat'(first|(apply zd B;try go_simp)|with_reducible first|apply ai|intro)
 rename_i u;refine wR (.l 32) (.l 201) 12 6 55 rfl rfl rfl ?_;refine aO [] ?_;go_simp;refine zi [.l 32,.l 201] 2 0 (C _ 0 0) ?_;intro q1;go_simp;repeat'(first|(apply zd h;try go_simp)|with_reducible first|apply ai|intro)
 refine zi [.l 32,.l 201] 2 0 (D _ 0 0) ?_;intro I;go_simp;exact⟨[.l 32,.l 201],dk,λj=>if j=0 then(u,0) else I 1,⟨OB,OB,trivial⟩,⟨rfl,rfl⟩,rfl⟩
def W4 (p:Pr)(s:Sa)(f:Fn)(n m b i:Nat)(x:Fm)(bk:Bk)(z:z9 s)(K:xR p s n m x f)(hb:f.blocks[b]?=some bk)(hi:i<bk.stmts.length+1)(o:x.at_=(z6 f.blocks b:Int)+i)(V:Sa)(t:Int)(B:zK 14 [p.a,s.a] (.tup [V.a,iU t,iI 0]))(R:List Acc)
  (g:¬i<bk.stmts.length) (G:bk.jump.kind=3) (D:∀d b c,zG 58 2 (λι=>[.ptr (ι 0) d 13 0 0]) (λι=>(xbO p ι d s t (([]:List Acc)) b c)) (λ_ _=>.tup []) (λι q=>(xxO p ι d t R ((q 1).1) ((q 1).2)))):zG 18 2 (λ_=>[p.a,s.a]) (λ_=>[]) (λι q=>.tup [.ptr (ι 0) (q 0).1 13 0 0,iI 0]) (λι q=>(xxO p ι ((q 0).1) t R ((q 1).1) ((q 1).2))):=by
 have C:=wP p s [] t n m x f z K;have h:=xC f K.fs.wf;rw[if_pos K.fs.er,K.fs.er] at h;have v:=vG hb hi;have H:=(zS.1 v).1;have e:x.at_=((z6 f.blocks b+i:Nat):Int):=by rw[o];omega
 clear o K z;generalize z6 f.blocks b+i=k at *;generalize uS f=L at *;obtain⟨xf,xa,xc,xl⟩:=x;simp only at e;subst e;obtain⟨fp,Y,W,fb⟩:=f;simp only at hb;obtain⟨E,F⟩:=zS.1 hb;have y:(k:Int)<L.length:=om;have A:L[k]=⟨(b:Int),(i:Int)⟩:=(zS.1 v).2;obtain⟨bs,⟨jk,⟨Q,S,⟨al,ad,P⟩⟩,jf,jn,Z,args,⟨U,T,df⟩⟩⟩:=bk;try simp only at *
 have w:¬i<bs.length:=g;have r:bs.length<=i:=om;obtain rfl:i=bs.length:=om;clear g r hi;subst G;obtain⟨vp,⟨⟨va,vn⟩,vt,vr,v1,v2⟩,vf,N,O⟩:=V;obtain⟨sp,⟨⟨sa,sn⟩,st,sr,s1,s2⟩,sf,J,M⟩:=s;try simp only at *
 refine eG [5] func18 λX=>?_;go_simp;repeat'(first|(apply zd B;try go_simp)|with_reducible first|apply ai|intro)
 rename_i u;refine wR (.l 32) (.l 201) 12 6 55 rfl rfl rfl ?_;refine aO [] ?_;go_simp;refine zi [.l 32,.l 201] 2 0 (C _ 0 0) ?_;intro q1;go_simp;repeat'(first|(apply zd h;try go_simp)|with_reducible first|apply ai|intro)
 refine zi [.l 32,.l 201] 2 0 (D _ 0 0) ?_;intro I;go_simp;exact⟨[.l 32,.l 201],dk,λj=>if j=0 then(u,0) else I 1,⟨OB,OB,trivial⟩,⟨rfl,rfl⟩,rfl⟩
def W5 (p:Pr)(s:Sa)(f:Fn)(n m b i:Nat)(x:Fm)(bk:Bk)(w:z9 s)(K:xR p s n m x f)(hb:f.blocks[b]?=some bk)(hi:i<bk.stmts.length+1)(g:x.at_=(z6 f.blocks b:Int)+i)(V:Sa)(r:Int)(A:zK 14 [p.a,s.a] (.tup [V.a,iU r,iI 0]))(R:List Acc)
  (d:¬i<bk.stmts.length) (E:bk.jump.kind=1\/bk.jump.kind=5) (z:R = [])  : zG 18 2 (λ_=>[p.a,s.a]) (λ_=>[]) (λι q=>.tup [.ptr (ι 0) (q 0).1 13 0 0,iI 0]) (λι q=>(xxO p ι ((q 0).1) r R ((q 1).1) ((q 1).2))):=by
 have B:=wP p s [] r n m x f w K;have e:=xC f K.fs.wf;rw[if_pos K.fs.er,K.fs.er] at e;have t:=vG hb hi;have F:=(zS.1 t).1;have c:x.at_=((z6 f.blocks b+i:Nat):Int):=by rw[g];omega
 clear g K w;generalize z6 f.blocks b+i=k at *;generalize uS f=L at *;obtain⟨xf,xa,xc,xl⟩:=x;simp only at c;subst c;obtain⟨fp,T,S,fb⟩:=f;simp only at hb;obtain⟨C,D⟩:=zS.1 hb;have v:(k:Int)<L.length:=om;have y:L[k]=⟨(b:Int),(i:Int)⟩:=(zS.1 t).2;obtain⟨bs,⟨Y,⟨N,O,⟨al,ad,M⟩⟩,W,Z,U,args,⟨Q,P,df⟩⟩⟩:=bk;try simp only at *
 have u:¬i<bs.length:=d;have h:bs.length<=i:=om;obtain rfl:i=bs.length:=om;clear d h hi;subst z;rcases E with rfl|rfl;all_goals
  obtain⟨vp,⟨⟨va,vn⟩,vt,vr,v1,v2⟩,vf,I,J⟩:=V;obtain⟨sp,⟨⟨sa,sn⟩,st,sr,s1,s2⟩,sf,G,H⟩:=s;try simp only at *
  refine eG [5,29] func18 λX=>?_;go_simp;repeat'(first|(apply zd A;try go_simp)|with_reducible first|apply ai|intro)
  rename_i o;refine wR (.l 32) (.l 201) 12 6 55 rfl rfl rfl ?_;refine aO [] ?_;go_simp;refine zi [.l 32,.l 201] 2 0 (B _ 0 0) ?_;intro q1;go_simp;repeat'(first|(apply zd e;try go_simp)|with_reducible first|apply ai|intro)
  refine VK [1,2,3,4,5,6,7,8,9,10] (.l 32) rfl rfl ?_;simp only[qw,List.foldr,List.set];refine aO [] ?_;go_simp;exact⟨[.l 32,.l 201],dk,λj=>if j=0 then(o,0) else(0,0),⟨OB,OB,trivial⟩,⟨rfl,rfl⟩,rfl⟩
def cr (p:Pr)(s:Sa)(L:List Acc)(x:Pl)(l:List Ce)(h:Env p s)(j:zZ (tyL p s) x=0)(hl:l.length<1000000)(f:(rz l&&!l.any uB)=true)(g:Int)(E:L.length<999990)(z:(fdS p s x).2.2.2=0)(u:¬(sSt (fdS p s x).1 (fdS p s x).2.1 l).2=0): ∀d b c,
  zG 53 2 (λι=>[.ptr (ι 0) d 13 0 0,x.a,vCe_ l]) (λι=>(xbO p ι d s g L b c)) (λ_ _=>.tup []) (λι q=>(xbO p ι d ((fdS p s x).1) g (L++trA p s x l.length) ((q 1).1) ((q 1).2))):=by
 rw[dW z,<-List.append_assoc];have m:=wF p s L x h j z g om;have e:=h.same vA (uv h.v (x:=x));have i:=@vF s x;have n:=pg p (fdS p s x).1 (L++trF s x) (fdS p s x).2.1 l e.wf e.v.wh hl f u g (by simp;omega);intro d b c;clear h j e z u i f hl;generalize trF s x=r at *;generalize (sSt (fdS p s x).1 (fdS p s x).2.1 l)=Z at *;generalize (fdS p s x)=U at *;obtain⟨t,w,y,A⟩:=U;obtain⟨B,C⟩:=Z;obtain⟨H,F,G⟩:=x;try simp only at *
 refine eG [] func53 λX=>?_;go_simp;repeat'(first|with_reducible first|apply ai|intro)
 refine zi [u0,u1] 2 0 (m d b c) ?_;intro k;go_simp;intro D;refine zi [u0,u1] 2 0 (n d (k 1).1 (k 1).2) ?_;intro o;go_simp;exact⟨[u0,u1],dk,⟨o,OB,OB,trivial⟩,yg,rfl⟩
def W6 (p:Pr)(s:Sa)(f:Fn)(n m b i:Nat)(x:Fm)(bk:Bk)(E:z9 s)(K:xR p s n m x f)(hb:f.blocks[b]?=some bk)(hi:i<bk.stmts.length+1)(o:x.at_=(z6 f.blocks b:Int)+i)(V T:Sa)(g:Int)(H:zK 14 [p.a,s.a] (.tup [V.a,iU g,iI 0]))(R:List Acc)
  (t:i<bk.stmts.length) (y:St) (Q:bk.stmts[i]?=some y) (O:y.kind=1) (l:List Ce) (z:Sa) (w:List Acc) (J:∀d b c,zG 52 2 (λι=>[.ptr (ι 0) d 13 0 0,y.r.a']) (λι=>(xbO p ι d s g (([]:List Acc)) b c)) (λ_ _=>.tup [vCe_ l,.bool true]) (λι q=>(xbO p ι d z g w ((q 1).1) ((q 1).2)))) (v:∀d b c,zG 53 2 (λι=>[.ptr (ι 0) d 13 0 0,y.pl.a,vCe_ l]) (λι=>(xbO p ι d z g w b c)) (λ_ _=>.tup []) (λι q=>(xbO p ι d T g R ((q 1).1) ((q 1).2)))):zG 18 2 (λ_=>[p.a,s.a]) (λ_=>[]) (λι q=>.tup [.ptr (ι 0) (q 0).1 13 0 0,iI 0]) (λι q=>(xbO p ι ((q 0).1) T g R ((q 1).1) ((q 1).2))):=by
 have I:=wP p s [] g n m x f E K;have h:=xC f K.fs.wf;rw[if_pos K.fs.er,K.fs.er] at h;have A:=vG hb hi;have P:=(zS.1 A).1;have e:x.at_=((z6 f.blocks b+i:Nat):Int):=by rw[o];omega
 clear o K E;generalize z6 f.blocks b+i=k at *;generalize uS f=L at *;obtain⟨xf,xa,xc,xl⟩:=x;simp only at e;subst e;obtain⟨fp,fu,fl,fb⟩:=f;simp only at hb;obtain⟨M,N⟩:=zS.1 hb;have C:(k:Int)<L.length:=om;have G:L[k]=⟨(b:Int),(i:Int)⟩:=(zS.1 A).2;obtain⟨bs,bj⟩:=bk;try simp only at *
 have B:i<bs.length:=t;have D:¬bs.length<=i:=om;obtain⟨S,U⟩:=zS.1 Q;obtain⟨yk,⟨yl,yd,yf⟩,⟨rk,ha,h9,⟨h1,h3,⟨h2,Y,Z⟩⟩,⟨h6,h8,⟨h7,h4,h5⟩⟩,⟨rl,rd,rf⟩⟩,⟨ak,an,⟨al,ad,af⟩⟩,hg⟩:=y;try simp only at *
 subst O;obtain⟨vp,⟨⟨va,vn⟩,vt,vr,v1,v2⟩,vf,he,hf⟩:=V;obtain⟨sp,⟨⟨sa,sn⟩,st,sr,s1,s2⟩,sf,hc,hd⟩:=s;try simp only at *
 refine eG [5] func18 λX=>?_;go_simp;repeat'(first|(apply zd H;try go_simp)|with_reducible first|apply ai|intro)
 rename_i u;refine wR (.l 32) (.l 201) 12 6 55 rfl rfl rfl ?_;refine aO [] ?_;go_simp;refine zi [.l 32,.l 201] 2 0 (I _ 0 0) ?_;intro q1;go_simp;repeat'(first|(apply zd h;try go_simp)|with_reducible first|apply ai|intro)
 refine zi [.l 32,.l 201] 2 0 (J _ 0 0) ?_;intro F;go_simp;refine zi [.l 32,.l 201] 2 0 (v _ (F 1).1 (F 1).2) ?_;intro W;go_simp;exact⟨[.l 32,.l 201],dk,λj=>if j=0 then(u,0) else W 1,⟨OB,OB,trivial⟩,⟨rfl,rfl⟩,rfl⟩
def Xb (n fr fn at_:Int)(a:Acc)(c w:Int)(k:List It): List AV:=[iI n,iI fr,iI fn,iI at_,iU a.kind,iU a.bo,iI a.p.al,iI a.p.off,iI a.p.tag,iI a.n,iI c,iU w,vIt_ k]
attribute [go_sem] Xb
def QN (p:Pr)(ins:List Int)(e:Int)(S T:Sa)(out n E:Int)(R:List Acc)(a:Acc)(c w:Int)(k:List It)(m:Nat)(x:Fm)(s:zK 33 [p.a,vCi_ ins,iI e,.bool false] (.tup [S.a,iU out,iI n,iI 0]))
  (j:0<=out) (o:aH out=true) (f:aI out=0) (r:zG 18 2 (λ_=>[p.a,S.a]) (λ_=>[]) (λι q=>.tup [.ptr (ι 0) (q 0).1 13 0 0,iI 0]) (λι q=>(xbO p ι ((q 0).1) T E (R++[a]) ((q 1).1) ((q 1).2))))
  (B:∀d,zG 144 1 (λι=>[T.a,.ptr (ι 0) d 13 0 0])
   (λ_=>[⟨d,1,13,160,[[iI n,iI m,iI x.fn,iI x.at_,iU a.kind,iU a.bo,iI a.p.al,iI a.p.off,iI a.p.tag,iI a.n,iI 0,iU 0,.nils]],false⟩])
   (λ_ _=>.tup []) (λ_ _=>[⟨d,1,13,160,[Xb n m x.fn x.at_ a c w k],false⟩]))
  (hm:S.frames.length=m+1) (hx:S.frames[m]?=some x) (u:m<1000000) (t:R.length<1000000):zK 77 [p.a,vCi_ ins,iI e] (.tup [.agg (Xb n m x.fn x.at_ a c w k),iI 0]):=by
 have i:=Ww out j;rw[o,f] at i;obtain⟨y,v⟩:=zS.1 hx;have h:((R++[a]).length:Int)=(R.length:Int)+1:=by simp
 have z:IntKind.i64.wrap ((S.frames.length:Int)-1)=(m:Int):=by rw[hm];exact(AM.Tf om).trans om
 have A:IntKind.i64.wrap (((R++[a]).length:Int)-1)=(R.length:Int):=by rw[h];exact(AM.Tf om).trans om
 have D:IntKind.i64.wrap (m:Int)=m:=AM.Tf om;have C:IntKind.i64.wrap (R.length:Int)=R.length:=AM.Tf om;obtain⟨sp,⟨⟨Z,sn⟩,ss,sr,P,Q⟩,sf,F,G⟩:=S;obtain⟨tp,⟨⟨ta,tn⟩,ts,tr,t1,t2⟩,tf,H,I⟩:=T;obtain⟨xf,xa,xc,xl⟩:=x;obtain⟨K,J,⟨U,V,W⟩,L⟩:=a;simp only at *;clear o f j;refine eK [11] func77 λX=>?_;go_simp;repeat'(first|((first|apply zd s|apply zd i);try go_simp)|with_reducible first|apply ai|intro)
 rename_i M N O;refine zi [.l 45,.l 201] 0 2 r ?_;intro q;go_simp;refine⟨om,λ_ b=>?_⟩;refine zh hP ⟨[(16,.l 16,0),(68,.l 8,7),(72,.l 15,0),(74,.l 15,1),(78,.l 45,12),(82,.l 45,12),(86,.l 201,0)],false⟩ dk ?_;go_simp;refine⟨om,λg=>?_⟩;refine zi [.l 16] 1 0 (B g) ?_;intro Y;go_simp
def Xc (p:Pr)(s:Sa)(f:Fn)(n m b i:Nat)(x:Fm)(bk:Bk)(G:z9 s)(K:xR p s n m x f)(hb:f.blocks[b]?=some bk)(hi:i<bk.stmts.length+1)(r:x.at_=(z6 f.blocks b:Int)+i)(V:Sa)(w:Int)(I:zK 14 [p.a,s.a] (.tup [V.a,iU w,iI 0]))(R:List Acc)
  (t:i<bk.stmts.length) (y:St) (hy:bk.stmts[i]?=some y) (Q:y.kind=3) (j:Nat) (P:y.loc=j) (l0:Po) (A:x.locals[j]?=some l0) (g:Ty) (B:f.locals[j]?=some g) (u:yE g=true) (v:Bool) (M:∀d b c,zG 54 2 (λι=>[.ptr (ι 0) d 13 0 0,l0.a,iI (zg g)]) (λι=>(xbO p ι d s w (([]:List Acc)) b c)) (λ_ _=>.bool v) (λι q=>(xxO p ι d w R ((q 1).1) ((q 1).2)))):zG 18 2 (λ_=>[p.a,s.a]) (λ_=>[]) (λι q=>.tup [.ptr (ι 0) (q 0).1 13 0 0,iI 0]) (λι q=>(xxO p ι ((q 0).1) w R ((q 1).1) ((q 1).2))):=by
 have J:=wP p s [] w n m x f G K;have o:=xC f K.fs.wf;rw[if_pos K.fs.er,K.fs.er] at o;have C:=vG hb hi;have U:=(zS.1 C).1;have e:x.at_=((z6 f.blocks b+i:Nat):Int):=by rw[r];omega
 have z:=ng g u;clear r K G;generalize z6 f.blocks b+i=k at *;generalize uS f=L at *;obtain⟨xf,xa,xc,xl⟩:=x;simp only at e;subst e;obtain⟨fp,fu,fl,fb⟩:=f;simp only at hb;obtain⟨N,O⟩:=zS.1 hb;have E:(k:Int)<L.length:=om;have H:L[k]=⟨(b:Int),(i:Int)⟩:=(zS.1 C).2;obtain⟨bs,bj⟩:=bk;try simp only at *
 have D:i<bs.length:=t;have F:¬bs.length<=i:=om;obtain⟨h1,h2⟩:=zS.1 hy;obtain⟨yk,⟨yl,yd,yf⟩,⟨rk,hm,hl,⟨h8,ha,⟨h9,h6,h7⟩⟩,⟨he,hg,⟨hf,hc,hd⟩⟩,⟨rl,rd,rf⟩⟩,⟨ak,an,⟨al,ad,af⟩⟩,ht⟩:=y;try simp only at *
 subst Q P;obtain⟨S,T⟩:=zS.1 A;obtain⟨W,Y⟩:=zS.1 B;generalize zg g=Z at *;obtain⟨h3,h4,h5⟩:=l0;obtain⟨tk,hp⟩:=g;obtain⟨vp,⟨⟨va,vn⟩,vt,vr,v1,v2⟩,vf,hq,hr⟩:=V;obtain⟨sp,⟨⟨sa,sn⟩,st,sr,s1,s2⟩,sf,hn,ho⟩:=s;try simp only at *
 refine eG [5,20] func18 λX=>?_;go_simp;repeat'(first|(apply zd I;try go_simp)|with_reducible first|apply ai|intro)
 rename_i h;refine wR (.l 32) (.l 201) 12 6 55 rfl rfl rfl ?_;refine aO [] ?_;go_simp;refine zi [.l 32,.l 201] 2 0 (J _ 0 0) ?_;intro q1;go_simp;repeat'(first|(apply zd o;try go_simp)|with_reducible first|apply ai|intro)
 refine uE hP ⟨[(99,.l 10,3),(101,.l 15,25),(105,.l 11,2),(107,.l 15,25)],true⟩ [103,109] (LC.mk _ _ _ _ _ _ (ji [.l 32,.l 201]) (M h 0 0) dk rfl (λ_=>rfl) (λ_=>rfl)) 112 dk ?_;go_simp;repeat'(first|(apply zd z;try go_simp)|with_reducible first|apply ai|intro)
 refine s9 rfl ?_ λq2=>?_
 ·go_simp
 go_simp;exact⟨[.l 32,.l 201],dk,λj=>if j=0 then(h,0) else q2 1,⟨OB,OB,trivial⟩,⟨rfl,rfl⟩,rfl⟩
def Acc.one (x:Acc): x.c.all xW=true:=rfl
def lH (p:Pr)(s:Sa)(R:List Acc)(b:Int)(f:R.length<1000000)(e:zG 18 2 (λ_=>[p.a,s.a]) (λ_=>[]) (λι q=>.tup [.ptr (ι 0) (q 0).1 13 0 0,iI 0]) (λι q=>(xxO p ι ((q 0).1) b R ((q 1).1) ((q 1).2)))):
  zK 8 [p.a,s.a] (.tup [.vec 6 (R.map Acc.c),iU b,iI 0]):=by
 have d:=bq (yb Acc.one R) (by rw[zU];exact f);obtain⟨o,⟨⟨k,n⟩,st,r,i,j⟩,m,g,h⟩:=s;refine eK [4] func8 λX=>?_;go_simp;repeat'(first|(refine yR [] [.l 200,.l 201] e ?_;intro q;try go_simp)|with_reducible first|apply ai|intro)
 refine yU [.l 201] (.l 200) 0 12 (a:=.sl (.l 201) _ 6 R.length _) (v:=.vec 6 (R.map Acc.c)) ?_;refine zh hP ⟨[(20,.l 200,12),(25,.l 200,11)],true⟩ dk ?_;go_simp;repeat'(first|(apply zd d;try go_simp)|with_reducible first|apply ai|intro)
def VF {p:Pr}: ∀ {l:List Opd} {s:Sa},(trC p s l).length<=3*l.length
 |[],_=>by simp[trC]
 |o::l,s=>by
  have a:=@ti p s o;have b:=@VF p l (vlS p s o).1;by_cases z:(vlS p s o).2.2=0
  ·rw[dY z];simp;omega
  ·rw[SC z];simp;omega
def cu {call:Int}: ∀ {ts:List Ty} {ls:List (List Ce)} {s:Sa},(trG call s ts ls).length<=ts.length
 |[],ls,s=>by unfold trG;cases ls<;>simp
 |t::ts,[],s=>by simp[trG]
 |t::ts,l::ls,s=>by
  by_cases k:t.kind=3\/t.kind=4
  ·have a:=@cu call ts ls (sRt s (ce0 l).p (zg ⟨t.to,0⟩) (rtK t) call).1;by_cases z:(sRt s (ce0 l).p (zg ⟨t.to,0⟩) (rtK t) call).2.2=0
   ·rw[V8 k z];simp;omega
   ·rw[SD k z];simp
  ·have a:=@cu call ts ls s;rw[gA k];simp;omega
def Ma {p:Pr}{s:Sa}{g:Fn}{args:List Opd}{o:Int}(h:g.locals.length<=16)(c:args.length<=16): (trK p s g args o).length<=100:=by
 unfold trK;have b:=@VF p args s;rw[List.length_append];split
 ·simp;omega
 ·have a:=@cu (gEn (y5 p s args []).1).2.1 (g.locals.drop 1) (y5 p s args []).2.1 (sEn (y5 p s args []).1);rw[List.length_drop] at a;omega
def VG:∀ {l:List Po} {ts:List Ty} {s:Sa},(trE s l ts).length<=l.length
 |[],ts,s=>by rw[VB];simp
 |q::l,[],s=>by simp[trE]
 |q::l,t::ts,s=>by
  have a:=@VG l ts (xEd s q.al).1;by_cases z:(xEd s q.al).2=0
  ·rw[VA z];simp;omega
  ·rw[SF z];simp
def Mb {p:Pr}{s:Sa}{c:Ju}(h:(zn s).locals.length<=16): (trQ p s c).length<=100:=by
 unfold trQ;have a:=@VG (zn s).locals (tyL p s) (sLv (bkS p s).1);have b:=@V0 p (zk p (bkS p s).1).1 c.dest (bkS p s).2.1.length;rw[List.length_cons];split
 ·simp
 ·rw[List.length_append];split
  ·simp;omega
  split
  ·simp;omega
  split
  ·simp;omega
  ·omega
def UW (p:Pr)(s:Sa)(L:List Acc)(r:Po)(n:Int)(i:z9 s)(h:WhV s)(e:yV s.mon.mem r.al=0)(f:Int)(g:L.length<1000000): ∃v:Bool,∀d b c,
  zG 54 2 (λι=>[.ptr (ι 0) d 13 0 0,r.a,iI n]) (λι=>(xbO p ι d s f L b c)) (λ_ _=>.bool v) (λι q=>(xxO p ι d f (L++[Acc.mk 4 0 r n]) ((q 1).1) ((q 1).2))):=by
 by_cases j:(xEd s r.al).2=0
 ·exact⟨true,λd b c=>(kM p s L r n i h e j f g d b c).wide (λ_ _=>Nat.le_refl _) λι q=>yy.cons (obq.one rfl λX w=>by repeat'(first|exact vw|refine uj ?_|refine ve ?_)) (yy.cons (obq.refl _) yy.nil)⟩
 ·exact⟨false,jY p s L r n i h e j f g⟩
def Mc {x:St}(h:y6 x=true)(k:x.kind=1): xG x.r=true:=by
 unfold y6 at h;simp_all
def gC (f:Fn): zK 15 [f.a] (.bool (fnL f)):=by
 refine eK [] func15 λX=>?_;go_simp;repeat'(first|with_reducible first|apply ai|intro)
 ·rename_i r s;unfold fnL;rw[decide_eq_true (show 30<f.blocks.length by omega),Bool.or_true,Bool.true_or]
 ·rename_i b r s;have e:fnL f=Yc f.blocks:=by unfold fnL;rw[decide_eq_false om,decide_eq_false om,Bool.false_or,Bool.false_or]
  rw[e];clear e;refine lN [] (λi=>[(1,.ptr (.l 1) b 4 0 0),(3,iI i)]) (λi=>[(.l 1,⟨b,1,4,60,[Fn.c f],false⟩)]) (λi=>i<=f.blocks.length/\∀x∈f.blocks.take i,bkL x=false) (λi=>f.blocks.length-i) 0 ?_
  rintro i ⟨hi,o⟩;by_cases d:i<f.blocks.length
  ·have g:(i:Int)<f.blocks.length:=om;have hx:f.blocks[i]?=some f.blocks[i]:=zE d;have hm:=λh=>zr o d h;have hn:bkL f.blocks[i]=true->Yc f.blocks=true:=λh=>Si (q:=bkL) d h;generalize t:f.blocks[i]=x at hx hm hn;obtain⟨xs,p⟩:=x;have m:=λh:30<xs.length=>hn (by unfold bkL;rw[decide_eq_true h,Bool.true_or]);have n:=λh:12<p.args.length=>hn (by unfold bkL;rw[decide_eq_true h,Bool.or_true]);have j:=fun (h:¬30<xs.length) (k:¬12<p.args.length)=>hm (by unfold bkL;rw[decide_eq_false h,decide_eq_false k];rfl);clear o hn hm;go_simp;repeat'(first|(apply zd (XQ p);try go_simp)|with_reducible first|apply ai|intro)
   ·exact n (by assumption)
   ·exact⟨i+1,⟨om,j om om⟩,om,wrS om⟩
   ·exact m om
  ·have u:Yc f.blocks=false:=Yd (zx o om);have g:¬(i:Int)<f.blocks.length:=om;go_simp
 ·rename_i h;unfold fnL;rw[decide_eq_true (show 30<f.locals.length by omega),Bool.true_or,Bool.true_or]
def Xd (p:Pr): zK 5 [p.a] (.bool (prL p)):=by
 refine eK [] func5 λX=>?_;go_simp;repeat'(first|with_reducible first|apply ai|intro)
 ·rename_i h;unfold prL;rw[decide_eq_true (show 10<p.funcs.length by omega),Bool.true_or]
 rename_i b j;have hpl:prL p=Qu p.funcs:=by unfold prL;rw[decide_eq_false om,Bool.false_or]
 rw[hpl];clear hpl;refine lN [] (λi=>[(1,.ptr (.l 1) b 1 0 0),(3,iI i)]) (λi=>[(.l 1,⟨b,1,1,24,[Pr.c p],false⟩)]) (λi=>i<=p.funcs.length/\∀x∈p.funcs.take i,fnL x=false) (λi=>p.funcs.length-i) 0 ?_
 rintro i ⟨hi,g⟩;go_simp;refine⟨λd=>⟨_,zE d,?_⟩,λe=>?_⟩
 ·have f:=gC p.funcs[i];repeat'(first|(apply zd f;try go_simp)|with_reducible first|apply ai|intro)
  ·rename_i h;exact Si (q:=fnL) d h
  ·exact⟨i+1,⟨om,zr g d (by assumption)⟩,om,wrS om⟩
 ·exact Yd (zx g e)
def Xe (x:Ss): zK 47 [x.a] (.bool (qY x)):=by
 have o:=λi (h:i<x.cells.length)=>Wj x.cells[i];have d:qY x=((x.cells.take 5).any grI||decide (4<x.cells.length)):=rfl;generalize qY x=R at *;replace d:=Hd.mk d;obtain⟨n,l⟩:=x;simp only at *;refine eK [] func47 λX=>?_;go_simp;intro q;refine lN [] (λi=>[(1,.ptr (.l 1) q 2 0 0),(3,iI i)]) (λi=>[(.l 1,⟨q,1,2,124,[Ss.c ⟨n,l⟩],false⟩)]) (λi=>i<=l.length/\i<=5/\Hd ((l.take i).any grI=false)) (λi=>l.length-i) 0 ?_ (h0:=⟨Nat.zero_le _,Nat.zero_le _,⟨rfl⟩⟩)
 rintro i ⟨hi,p,⟨e⟩⟩;by_cases f:i<l.length
 ·have hx:l[i]?=some l[i]:=zE f;have b:=o i f;have hn:=Y3 f e;clear o;by_cases k:i<=4
  ·have m:(i:Int)<=4:=om;cases j:grI l[i] with
   |true =>
    rw[j] at hn b;obtain rfl:R=true:=by rw[d.out,Y4 (by omega:i+1<=5) hn];rfl
    clear d hn j e;generalize s:l[i]=x at *;go_simp;repeat'(first|(apply zd b;try go_simp)|with_reducible first|apply ai|intro)
   |false =>
    rw[j] at hn b;replace hn:=Hd.mk hn;clear j e d;generalize s:l[i]=x at *;go_simp;repeat'(first|(apply zd b;try go_simp)|with_reducible first|apply ai|intro)
    exact⟨i+1,⟨om,om,⟨by simpa using hn.out⟩⟩,om,wrS om⟩
  ·have m:¬(i:Int)<=4:=om;have r:(4:Int)<l.length:=om;obtain rfl:R=true:=by rw[d.out,decide_eq_true (by omega:4<l.length),Bool.or_true]
   clear d hn e;go_simp
 ·obtain rfl:i=l.length:=om;clear o;rw[List.take_length] at e;have g:R=decide (4<l.length):=by
   rw[d.out,show(l.take 5).any grI=false from by rw[zT p];exact e,Bool.false_or]
  clear d e;by_cases k:4<l.length
  ·have r:(4:Int)<l.length:=om;rw[decide_eq_true k] at g;subst g;go_simp
  ·have r:¬(4:Int)<l.length:=om;rw[decide_eq_false k] at g;subst g;go_simp
def Xf (m:Me): zK 46 [m.a] (.bool (iN m)):=by
 have b:iN m=((m.allocs.take 411).any grA||decide (410<m.allocs.length)):=rfl;generalize iN m=R at *;replace b:=Hd.mk b;obtain⟨l,n⟩:=m;simp only at *;refine eK [] func46 λX=>?_;go_simp;intro r;refine lN [] (λi=>[(1,.ptr (.l 1) r 2 0 0),(3,iI i)]) (λi=>[(.l 1,⟨r,1,2,27,[Me.c ⟨l,n⟩],false⟩)]) (λi=>i<=l.length/\i<=411/\Hd ((l.take i).any grA=false)) (λi=>l.length-i) 0 ?_ (h0:=⟨Nat.zero_le _,Nat.zero_le _,⟨rfl⟩⟩)
 rintro i ⟨hi,o,⟨d⟩⟩;by_cases f:i<l.length
 ·have hx:l[i]?=some l[i]:=zE f;have hn:=Y3 f d;have t:¬l.length<=i:=om;by_cases j:i<=410
  ·have k:(i:Int)<=410:=om;by_cases h:5<l[i].cells.length
   ·have e:(5:Int)<l[i].cells.length:=om;rw[show grA l[i]=true from decide_eq_true h] at hn;obtain rfl:R=true:=by rw[b.out,Y4 (by omega:i+1<=411) hn];rfl
    clear b hn h d;generalize u:l[i]=x at *;obtain⟨w,v,q⟩:=x;simp only at e;have p:¬(q.length:Int)<=5:=om;go_simp
   ·have e:¬(5:Int)<l[i].cells.length:=om;rw[show grA l[i]=false from decide_eq_false h] at hn;replace hn:=Hd.mk hn;clear h d b;generalize u:l[i]=x at *;obtain⟨w,v,q⟩:=x;simp only at e;have p:(q.length:Int)<=5:=om;go_simp;exact⟨i+1,⟨om,om,⟨by simpa using hn.out⟩⟩,om,wrS om⟩
  ·have k:¬(i:Int)<=410:=om;have s:(410:Int)<l.length:=om;obtain rfl:R=true:=by rw[b.out,decide_eq_true (by omega:410<l.length),Bool.or_true]
   clear b hn d;go_simp
 ·obtain rfl:i=l.length:=om;rw[List.take_length] at d;have g:R=decide (410<l.length):=by
   rw[b.out,show(l.take 411).any grA=false from by rw[zT o];exact d,Bool.false_or]
  clear b d;by_cases j:410<l.length
  ·have s:(410:Int)<l.length:=om;rw[decide_eq_true j] at g;subst g;go_simp
  ·have s:¬(410:Int)<l.length:=om;rw[decide_eq_false j] at g;subst g;go_simp
def Xg (m:Mo): zK 16 [m.a] (.bool (iO m)):=by
 have t:=Xf m.mem;have q:=λi (h:i<m.stacks.length)=>Xe m.stacks[i];have b:iO m=(iN m.mem||decide (410<m.stacks.length)||decide (50<m.running.length)||m.stacks.any qY||decide (3000<Y5 m.stacks)):=rfl;generalize iO m=R at *;generalize iN m.mem=g at *;obtain⟨⟨al,nx⟩,l,rn,nt,nc⟩:=m;simp only at *;cases g with
 |true =>
  obtain rfl:R=true:=by rw[b];rfl
  clear b q;refine eK [] func16 λX=>?_;go_simp;repeat'(first|(apply zd t;try go_simp)|with_reducible first|apply ai|intro)
 |false =>
  rw[Bool.false_or] at b;by_cases c1:410<l.length
  ·obtain rfl:R=true:=by rw[b,decide_eq_true c1];rfl
   have c2:(410:Int)<l.length:=om;clear b q;refine eK [] func16 λX=>?_;go_simp;repeat'(first|(apply zd t;try go_simp)|with_reducible first|apply ai|intro)
  ·rw[decide_eq_false c1,Bool.false_or] at b;have c2:¬(410:Int)<l.length:=om;by_cases z:50<rn.length
   ·obtain rfl:R=true:=by rw[b,decide_eq_true z];rfl
    have E:(50:Int)<rn.length:=om;clear b q;refine eK [] func16 λX=>?_;go_simp;repeat'(first|(apply zd t;try go_simp)|with_reducible first|apply ai|intro)
   ·rw[decide_eq_false z,Bool.false_or] at b;have E:¬(50:Int)<rn.length:=om;replace b:=Hd.mk b;refine eK [] func16 λX=>?_;go_simp;repeat'(first|(apply zd t;try go_simp)|with_reducible first|apply ai|intro)
    rename_i s;refine lN [] (λi=>[(1,.ptr (.l 1) s 6 0 0),(3,iI (((l.map λx=>mZ x.cells).take i).sum:Nat)),(4,iI i)]) (λi=>[(.l 1,⟨s,1,6,31,[Mo.c ⟨⟨al,nx⟩,l,rn,nt,nc⟩],false⟩)]) (λi=>i<=l.length/\Hd (∀x∈l.take i,qY x=false)) (λi=>l.length-i) 0 ?_ (h0:=⟨Nat.zero_le _,⟨sm⟩⟩)
    rintro i ⟨hi,⟨n⟩⟩;have hb:=NC om n;by_cases d:i<l.length
    ·have hx:l[i]?=some l[i]:=zE d;have f:=q i d;have C:¬l.length<=i:=om;clear q;cases p:qY l[i] with
     |true =>
      rw[p] at f;obtain rfl:R=true:=by rw[b.out,List.any_eq_true.2 ⟨_,zM d,p⟩];rfl
      clear b p n hb;generalize G:l[i]=x at *;obtain⟨K,e⟩:=x;go_simp;repeat'(first|(apply zd f;try go_simp)|with_reducible first|apply ai|intro)
     |false =>
      rw[p] at f;obtain⟨D,v⟩:=Y7 p;have hn:Hd (∀x∈l.take (i+1),qY x=false):=⟨λx hx=>by
       rw[List.take_add_one,zE d] at hx;rcases zJ.1 hx with hx|hx
       ·exact n x hx
       ·simp at hx;subst hx;exact p⟩
      have k:=Y6 (l:=l.map λx=>mZ x.cells) (i:=i) (by simpa using d);simp only[zR] at k;clear b p n;generalize G:l[i]=x at *;obtain⟨K,e⟩:=x;simp only at D v k;generalize ((l.map λx=>mZ x.cells).take i).sum=T at *;go_simp;repeat'(first|(apply zd f;try go_simp)|with_reducible first|apply ai|intro)
      refine lN [] (λj=>[(1,.ptr (.l 1) s 6 0 0),(3,iI ((T+((e.map List.length).take j).sum:Nat))),(4,iI i),(5,iI j)]) (λj=>[(.l 1,⟨s,1,6,31,[Mo.c ⟨⟨al,nx⟩,l,rn,nt,nc⟩],false⟩)]) (λj=>j<=e.length) (λj=>e.length-j) 0 ?_ (h0:=(Nat.zero_le _))
      rintro j L;have I:=Vr (i:=j) D v;by_cases o:j<e.length
      ·have M:e[j]?=some e[j]:=zE o;have B:¬e.length<=j:=om;have r:=Y6 (l:=e.map List.length) (i:=j) (by simpa using o);simp only[zR] at r;have J:=v _ (zM o);generalize H:e[j]=y at *;clear v k hn;go_simp;refine⟨j+1,om,om,?_,wrS om⟩;rw[r];exact(AM.Tf om).trans om
      ·obtain rfl:j=e.length:=om;go_simp;refine⟨i+1,⟨om,hn⟩,om,?_,wrS om⟩;rw[k];unfold mZ;omega
    ·obtain rfl:i=l.length:=om;clear q;rw[List.take_length] at n;have u:R=decide (3000<Y5 l):=by
      rw[b.out,show l.any qY=false from zI.2 λx hx=>by rw[n x hx];decide,Bool.false_or]
     have w:((l.map λx=>mZ x.cells).take l.length).sum=Y5 l:=by rw[zT sm];rfl
     clear b n;rw[w];generalize Y5 l=T at *;by_cases A:3000<T
     ·have F:(3000:Int)<T:=om;rw[decide_eq_true A] at u;subst u;go_simp
     ·have F:¬(3000:Int)<T:=om;rw[decide_eq_false A] at u;subst u;go_simp
def Xh (s:Sa): zK 6 [s.a] (.bool (dO s)):=by
 have h:=Xg s.mon;have b:dO s=(iO s.mon||decide (20<s.frames.length)||decide (210<s.prints.length)||decide (10<s.result.length)||s.frames.any grF):=rfl;generalize dO s=R at *;generalize iO s.mon=g at *;obtain⟨pl,mo,l,pr,re⟩:=s;simp only at *;cases g with
 |true =>
  obtain rfl:R=true:=by rw[b];rfl
  clear b;refine eK [] func6 λX=>?_;go_simp;repeat'(first|(apply zd h;try go_simp)|with_reducible first|apply ai|intro)
 |false =>
  rw[Bool.false_or] at b;by_cases c1:20<l.length
  ·obtain rfl:R=true:=by rw[b,decide_eq_true c1];rfl
   have c2:(20:Int)<l.length:=om;clear b;refine eK [] func6 λX=>?_;go_simp;repeat'(first|(apply zd h;try go_simp)|with_reducible first|apply ai|intro)
  ·rw[decide_eq_false c1,Bool.false_or] at b;have c2:¬(20:Int)<l.length:=om;by_cases p:210<pr.length
   ·obtain rfl:R=true:=by rw[b,decide_eq_true p];rfl
    have t:(210:Int)<pr.length:=om;clear b;refine eK [] func6 λX=>?_;go_simp;repeat'(first|(apply zd h;try go_simp)|with_reducible first|apply ai|intro)
   ·rw[decide_eq_false p,Bool.false_or] at b;have t:¬(210:Int)<pr.length:=om;by_cases q:10<re.length
    ·obtain rfl:R=true:=by rw[b,decide_eq_true q];rfl
     have u:(10:Int)<re.length:=om;clear b;refine eK [] func6 λX=>?_;go_simp;repeat'(first|(apply zd h;try go_simp)|with_reducible first|apply ai|intro)
    ·rw[decide_eq_false q,Bool.false_or] at b;have u:¬(10:Int)<re.length:=om;replace b:=Hd.mk b;refine eK [] func6 λX=>?_;go_simp;repeat'(first|(apply zd h;try go_simp)|with_reducible first|apply ai|intro)
     rename_i o;refine lN [] (λi=>[(1,.ptr (.l 1) o 10 0 0),(3,iI i)]) (λi=>[(.l 1,⟨o,1,10,35,[Sa.c ⟨pl,mo,l,pr,re⟩],false⟩)]) (λi=>i<=l.length/\Hd (∀x∈l.take i,grF x=false)) (λi=>l.length-i) 0 ?_ (h0:=⟨Nat.zero_le _,⟨sm⟩⟩)
     rintro i ⟨hi,⟨e⟩⟩;by_cases d:i<l.length
     ·have hx:l[i]?=some l[i]:=zE d;have r:¬l.length<=i:=om;by_cases j:20<l[i].locals.length
      ·obtain rfl:R=true:=by rw[b.out];exact List.any_eq_true.2 ⟨_,zM d,decide_eq_true j⟩
       clear b e;generalize v:l[i]=x at *;obtain⟨f,a,c,k⟩:=x;simp only at j;have m:(20:Int)<k.length:=om;have n:¬(k.length:Int)<=20:=om;go_simp
      ·have hn:Hd (∀x∈l.take (i+1),grF x=false):=⟨λx hx=>by
        rw[List.take_add_one,zE d] at hx;rcases zJ.1 hx with hx|hx
        ·exact e x hx
        ·simp at hx;subst hx;exact decide_eq_false j⟩
       clear b e;generalize v:l[i]=x at *;obtain⟨f,a,c,k⟩:=x;simp only at j;have m:¬(20:Int)<k.length:=om;have n:(k.length:Int)<=20:=om;go_simp;exact⟨i+1,⟨om,hn⟩,om,wrS om⟩
     ·obtain rfl:i=l.length:=om;rw[List.take_length] at e;obtain rfl:R=false:=by rw[b.out];exact zI.2 λx hx=>by rw[e x hx];decide
      clear b e;go_simp
def Rd {p:Pr}{s:Sa}(e:wfP p)(h:aSE p s=0): Env p s:=by
 unfold aSE at h;split at h
 ·rename_i c;exact absurd h c
 rename_i c;split at h
 ·simp at h
 rename_i b;have a:ckE p s=0:=Classical.not_not.1 c;unfold ckE at a;split at a
 ·rename_i d;exact absurd a d
 rename_i d;exact⟨e,Classical.not_not.1 d,Lj.1 a,b⟩
def mp {T:Type}{l:List T}{q:T->Bool}(h:l.any q=false){x:T}(hx:x∈l): q x=false:=by
 cases e:q x with
 |false=>rfl
 |true=>rw[List.any_eq_true.2 ⟨x,hx,e⟩] at h;cases h
def eL {p:Pr}(h:prL p=false): wfP p:=by
 unfold prL Qu at h;simp only[Bool.or_eq_false_iff,zN] at h;refine⟨om,λf d=>?_⟩;have a:=mp h.2 d;unfold fnL Yc at a;simp only[Bool.or_eq_false_iff,zN] at a;refine⟨om,om,λb hb=>?_⟩;have c:=mp a.2 hb;unfold bkL at c;simp only[Bool.or_eq_false_iff,zN] at c;omega
def Md {s:Sa}(h:dO s=false): z9 s:=by
 unfold dO iO iN at h;simp only[Bool.or_eq_false_iff,zN] at h;obtain⟨⟨⟨⟨⟨⟨⟨⟨⟨b,hb⟩,f⟩,g⟩,c⟩,i⟩,j⟩,k⟩,hi⟩,d⟩:=h;rw[zT om] at b;refine⟨⟨⟨om,λa hm=>?_⟩,om,λx hm=>?_,om⟩,om,λx hm=>?_,om,om⟩
 ·have:=mp b hm
  unfold grA at this;simp only[zN] at this;omega
 ·obtain⟨k1,e⟩:=Y7 (mp c hm);exact⟨om,λl hl=>by have:=e l hl;omega⟩
 ·have:=mp d hm
  unfold grF at this;simp only[zN] at this;omega
def stp (p:Pr)(s:Sa)(y:St): Sa×Int:=if ¬(stS p s y).2=0 then(s,(stS p s y).2) else(atS (stS p s y).1 ((zn s).at_+1),0)
structure Stp (p:Pr)(s:Sa)(f:Fn)(n m b i:Nat)(bk:Bk)(x:Fm)(y:St): Prop where
 K:xR p s n m x f
 P:StP p s y
 at_:x.at_=(z6 f.blocks b:Int)+i
 S:zK 14 [p.a,s.a] (.tup [(stp p s y).1.a,iU (stp p s y).2,iI 0])
def KA {p:Pr}{s:Sa}{f:Fn}{b i:Nat}{bk:Bk}{y:St}(v:Env p s)(I:rgC s)(z:rgP p)(J:kF p)(w:p.funcs[(zn s).fn.toNat]?=some f)(hb:f.blocks[b]?=some bk)(l:(zn s).at_=(z6 f.blocks b:Int)+i)(A:bk.stmts[i]?=some y):
  ∃n m x,Stp p s f n m b i bk x y:=by
 obtain⟨a,k,g,h,c,e,B,n,m,o,x,Q⟩:=LN v I z J;have K:=Q.K;have C:a=f:=by
  have F:=K.ff;rw[K.top,K.fn,Int.toNat_natCast,F] at w;exact zY w
 subst C;obtain⟨d,L⟩:=zS.1 A;have j:=vG Q.hb Q.hi;have G:=vG hb (show i<bk.stmts.length+1 by omega);have H:=Q.at_;rw[K.top] at l
 rw[show z6 a.blocks o+B=z6 a.blocks b+i by omega,G] at j;simp at j;obtain⟨q,r⟩:=j;have q:b=o:=om;have r:i=B:=om;subst q r;have D:bk=e:=by have:=Q.hb;rw[hb] at this;exact zY this
 subst D;have t:bk.stmts.getD i yY=y:=by rw[zD,A];rfl
 have hP:=Q.P.st d;have u:=bg p s a k g h c bk i n m b x v Q z;rw[t] at hP;have E:sdS p s a k g h.blocks c bk i=stp p s y:=by unfold sdS stp;rw[if_pos d,t]
 rw[E] at u;exact⟨n,m,x,K,hP,by rw[H],u⟩
def at0 (n:Int): Pl:=⟨n,false,0⟩
def der (n:Int): Pl:=⟨n,true,0⟩
def opZ:Opd:=⟨0,0,at0 0⟩
def tx (n:Int): Opd:=⟨1,n,at0 0⟩
def QO (x:Pl): Opd:=⟨2,0,x⟩
def use (o:Opd): Rv:=⟨1,0,0,o,opZ,at0 0⟩
def UX (b:Int)(x:Pl): Rv:=⟨4,0,b,opZ,opZ,x⟩
def rvO:Rv:=⟨0,0,0,opZ,opZ,at0 0⟩
def sK (x:Pl)(r:Rv): St:=⟨1,x,r,opZ,0⟩
def put (x:Pl): St:=⟨2,at0 0,rvO,QO x,0⟩
def juR:Ju:=⟨3,opZ,0,0,0,[],at0 0⟩
def li (l:List St): Fn:=⟨0,false,[⟨1,0⟩,⟨1,0⟩,⟨4,1⟩,⟨3,1⟩,⟨2,0⟩],[⟨sK (at0 1) (use (tx 7))::l,juR⟩]⟩
def x6 (l:List St): Pr:=⟨[li l]⟩
def stA (l:List St): Nat->Sa
 |0=>(puS saN 0 (li l) []).1
 |i+1=>(stp (x6 l) (stA l i) ((sK (at0 1) (use (tx 7))::l).getD i yY)).1
def okA (l:List St)(i:Nat)(o:Int): Bool:=aSE (x6 l) (stA l i)==0&&(stA l i).mon.mem.allocs.all (λa=>a.cells.all λc=>decide (-9223372036854775808<=c.n/\c.n<9223372036854775808))&&(zn (stA l i)).fn==0&&(zn (stA l i)).at_==i&&(stp (x6 l) (stA l i) ((sK (at0 1) (use (tx 7))::l).getD i yY)).2==o
def eM {l:List St}{i:Nat}{o:Int}(t:prL (x6 l)=false)(v:rgP (x6 l))(u:kF (x6 l))(hi:i<l.length+1)(h:okA l i o=true): Env (x6 l) (stA l i)/\rgC (stA l i) /\
  ∃n m x,Stp (x6 l) (stA l i) (li l) n m 0 i ⟨sK (at0 1) (use (tx 7))::l,juR⟩ x ((sK (at0 1) (use (tx 7))::l).getD i yY)/\x.fn=0/\(stp (x6 l) (stA l i) ((sK (at0 1) (use (tx 7))::l).getD i yY)).2=o:=by
 unfold okA at h;simp only[zB,beq_iff_eq] at h;obtain⟨⟨⟨⟨j,k⟩,d⟩,p⟩,q⟩:=h;have g:=Rd (eL t) j;have e:rgC (stA l i):=by
  intro a r c s;have:=zA.1 (zA.1 k a r) c s
  unfold rgN;exact of_decide_eq_true this
 obtain⟨n,m,x,Q⟩:=KA (f:=li l) (b:=0) (i:=i) (bk:=⟨sK (at0 1) (use (tx 7))::l,juR⟩) (y:=(sK (at0 1) (use (tx 7))::l).getD i yY) g e v u (by rw[d];rfl) rfl (by rw[p];simp[z6]) (by
  rw[zD,zE (by simpa using hi)];rfl)
 exact⟨g,e,n,m,x,Q,by rw[<-Q.K.top];exact d,q⟩
def lA:List St:=[sK (at0 2) (UX 2 (at0 1)),put (at0 1),sK (der 2) (use (tx 8))]
def c5:prL (x6 lA)=false:=by decide +kernel
def Xi:rgP (x6 lA):=by unfold rgP rgS rgJ;decide +kernel
def Xj:kF (x6 lA):=by unfold kF rgK rgN;decide +kernel
def E9:okA lA 0 0=true:=by decide +kernel
def EA:okA lA 1 0=true:=by decide +kernel
def EB:okA lA 2 0=true:=by decide +kernel
def KB:okA lA 3 5=true:=by decide +kernel
attribute [go_sem] at0 der opZ tx QO use UX rvO sK put juR
def QP (n:Int): zK 27 [iI n] (at0 n).a:=by
 refine eK [] func27 λX=>?_;go_simp
def Mf (n:Int): zK 30 [iI n] (der n).a:=by
 refine eK [] func30 λX=>?_;go_simp
def VH (n:Int): zK 32 [iI n] (tx n).a:=by
 refine eK [] func32 λX=>?_;go_simp
def KC (x:Pl): zK 74 [x.a] (QO x).a:=by
 obtain⟨a,b,c⟩:=x;refine eK [] func74 λX=>?_;go_simp
def PZ (o:Opd): zK 31 [o.a] (use o).a':=by
 obtain⟨a,b,c,d,e⟩:=o;refine eK [] func31 λX=>?_;go_simp
def Hw (b:Int)(x:Pl): zK 28 [iU b,x.a] (UX b x).a':=by
 obtain⟨a,b,c⟩:=x;refine eK [] func28 λX=>?_;go_simp
def UY (x:Pl)(r:Rv): zK 26 [x.a,r.a'] (sK x r).a':=by
 obtain⟨a,b,c⟩:=x;obtain⟨d,e,f,⟨g,h,i,j,k⟩,⟨l,m,n,o,p⟩,q,s,t⟩:=r;refine eK [] func26 λX=>?_;go_simp
def Hx (x:Pl): zK 29 [x.a] (put x).a':=by
 have h:=KC x;obtain⟨a,b,c⟩:=x;refine eK [] func29 λX=>?_;go_simp;repeat'(first|(apply zd h;try go_simp)|with_reducible first|apply ai|intro)
def UZ (l:List St): List St:=sK (at0 1) (use (tx 7))::l
def Rf (l:List St)(hl:l.length<100): zG 25 4 (λ_=>[vSt_ l]) (λ_=>[]) (λι q=>.agg [.sl (ι 0) (q 0).1 4 1 (q 0).2])
  (λι q=>[⟨(q 0).1,(q 0).2,4,60,[[iI 0,.bool false,.sl (ι 1) (q 1).1 2 5 (q 1).2,.sl (ι 2) (q 2).1 14 1 (q 2).2]],false⟩,
   ⟨(q 1).1,(q 1).2,2,141,(li l).locals.map Ty.c,false⟩,
   ⟨(q 2).1,(q 2).2,14,110,[[.sl (ι 3) (q 3).1 26 (1+l.length) (q 3).2,iU 3,iU 0,iI 0,iI 0,.bool false,iU 0,iI 0,iI 0,iI 0,.nils,iI 0,.bool false,iU 0]],false⟩,
   ⟨(q 3).1,(q 3).2,26,89,(UZ l).map St.c,false⟩]):=by
 have f:=QP 1;have g:=VH 7;have h:=PZ (tx 7);have i:=UY (at0 1) (use (tx 7));refine eG [] func25 λX=>?_;go_simp;repeat'(first|((first|apply zd f|apply zd g|apply zd h|apply zd i);try go_simp)|with_reducible first|apply ai|intro)
 ·omega
 rename_i k m b c a d e;exact⟨[.l 22,.l 16,.l 20,.l 8],dk,λj=>if j=0 then(e,1) else if j=1 then(a,5) else if j=2 then(d,1) else(b,c),⟨OB,OB,OB,OB,trivial⟩,⟨rfl,rfl,rfl⟩,rfl⟩
def sL:Sa:=⟨false,⟨⟨[⟨0,true,[ceZ]⟩,⟨1,true,[ce1 7]⟩,⟨2,true,[⟨2,0,⟨1,0,6⟩⟩]⟩,⟨3,true,[ceZ]⟩,⟨4,true,[ceZ,ceZ]⟩],5⟩,[⟨0,[[⟨1,1,0⟩]]⟩,⟨1,[[⟨1,2,0⟩]]⟩,⟨2,[[⟨1,3,0⟩]]⟩,⟨3,[[⟨1,4,0⟩]]⟩,⟨4,[[⟨1,5,0⟩],[⟨1,5,0⟩]]⟩],[1],7,2⟩,
 [⟨0,3,1,[⟨0,0,1⟩,⟨1,0,2⟩,⟨2,0,3⟩,⟨3,0,4⟩,⟨4,0,5⟩]⟩],[7],[]⟩
def EC:stA lA 3=sL:=by decide +kernel
def ED:(fdS (x6 lA) sL (der 2)).1=sL:=by decide +kernel
def aW:Acc:=⟨2,0,⟨1,0,6⟩,1⟩
def aR:Acc:=⟨1,0,⟨2,0,3⟩,1⟩
def yA:St:=sK (der 2) (use (tx 8))
def xA:Fm:=⟨0,3,1,[⟨0,0,1⟩,⟨1,0,2⟩,⟨2,0,3⟩,⟨3,0,4⟩,⟨4,0,5⟩]⟩
def Oa:zK 33 [(x6 lA).a,vCi_ ([]:List Int),iI 100,.bool false] (.tup [sL.a,iU 5,iI 3,iI 0]):=by
 have m:=eM c5 Xi Xj (by decide) E9;have n:=eM c5 Xi Xj (by decide) EA;have o:=eM c5 Xi Xj (by decide) EB;have p:=eM c5 Xi Xj (by decide) KB;obtain⟨_,_,_,_,_,d,_,h⟩:=m;obtain⟨_,_,_,_,_,e,_,j⟩:=n;obtain⟨_,_,_,_,_,f,_,k⟩:=o;obtain⟨u,_,_,_,_,g,_,l⟩:=p;have t:∀i,i<3->zK 14 [(x6 lA).a,(stA lA i).a] (.tup [(stA lA (i+1)).a,iU 0,iI 0]):=by
  intro i hi;rcases(show i=0\/i=1\/i=2 by omega) with rfl|rfl|rfl
  ·have:=d.S;rw[h] at this;exact this
  ·have:=e.S;rw[j] at this;exact this
  ·have:=f.S;rw[k] at this;exact this
 have q:zK 14 [(x6 lA).a,(stA lA 3).a] (.tup [sL.a,iU 5,iI 0]):=by
  have:=g.S;rw[l,show(stp (x6 lA) (stA lA 3) ((sK (at0 1) (use (tx 7))::lA).getD 3 yY)).1=sL by decide +kernel] at this;exact this
 have s:=K8 (x6 lA) (stA lA) 3 sL 5 100 t q (by decide) (by decide) (by decide) dk;have c:=eL c5;have b:tyE (x6 lA)=0:=by decide +kernel
 have r:=Wy (x6 lA) (li lA) c b (uA.1 dk) rfl (s8 c (vW b) _ (by simp[x6])) rfl (by decide) dk;exact NZ (x6 lA) [] (stA lA 0) sL 100 5 3 r s (by decide) (by decide)
def Xk:zG 18 2 (λ_=>[(x6 lA).a,sL.a]) (λ_=>[]) (λι q=>.tup [.ptr (ι 0) (q 0).1 13 0 0,iI 0]) (λι q=>xbO (x6 lA) ι (q 0).1 sL 5 ([aR]++[aW]) (q 1).1 (q 1).2):=by
 obtain⟨c,-,n,m,x,Q,-,d⟩:=eM c5 Xi Xj (by decide) KB;rw[EC] at c Q d;have e:=Q.S;rw[d] at e;have f:=kN (x6 lA) sL [] yA.r c ⟨Or.inl rfl,by decide,λh=>absurd rfl h⟩ dk rfl rfl 5 sm;have b:=cr (x6 lA) sL [] yA.pl [ce1 8] c dk (by decide) dk 5 sm dk dk;rw[show(fdS (x6 lA) sL yA.pl).1=sL from ED,show []++trA (x6 lA) sL yA.pl [ce1 8].length = [aR]++[aW] by decide +kernel] at b;exact W6 (x6 lA) sL (li lA) n m 0 3 x ⟨UZ lA,juR⟩ c.wf Q.K rfl (by decide) Q.at_ _ sL 5 e ([aR]++[aW]) (by decide) yA rfl rfl [ce1 8] sL [] f b
def Hy:zK 77 [(x6 lA).a,vCi_ ([]:List Int),iI 100] (.tup [.agg (Xb 3 0 0 3 aW 0 1 [⟨1,2,0⟩]),iI 0]):=by
 refine QN (x6 lA) [] 100 sL sL 5 3 5 [aR] aW 0 1 [⟨1,2,0⟩] 0 xA Oa (by decide) rfl rfl Xk (λd=>?_) rfl rfl (by decide) (by decide);exact bR sL aW 3 (0:Nat) xA.fn xA.at_ 1 0 ⟨1,true,[ce1 7]⟩ ⟨1,[[⟨1,2,0⟩]]⟩ [⟨1,2,0⟩] 1 rfl dk (by decide) rfl rfl rfl rfl rfl (by decide) (by decide) dk (by decide) (by decide) (by decide) (by decide) d
def Hz:zK 8 [(x6 lA).a,sL.a] (.tup [.vec 6 ([aR,aW].map Acc.c),iU 5,iI 0]) :=
 lH (x6 lA) sL [aR,aW] 5 (by decide) (Xk.wide (λ_ _=>Nat.le_refl _) λι q=>yy.cons (obq.one rfl λX w=>by repeat'(first|exact vw|refine uj ?_|refine ve ?_)) (yy.cons (obq.refl _) yy.nil))
def KD (p:Pr)(n c w:Int)(a:Acc)(k:List It)(b:zK 77 [p.a,.vec 1 [],iI 100] (.tup [.agg (Xb n 0 0 n a c w k),iI 0])):
  zK 34 [p.a,iI n,iU w,iU a.kind,iI c,iI k.length] (.bool true):=by
 obtain⟨e,d,⟨g,h,i⟩,f⟩:=a;refine eK [] func34 λX=>?_;go_simp;repeat'(first|(refine dJ [] b ?_;try go_simp)|with_reducible first|apply ai|intro)
attribute [go_sem] sL aR aW
def W7:zK 12 [] (.bool true):=by
 have m:=Rf lA (by decide);have n:zK 33 [(x6 lA).a,.vec 1 [],iI 100,.bool false] (.tup [sL.a,iU 5,iI 3,iI 0]):=Oa;have o:=Hz;have p:=KD (x6 lA) 3 0 1 aW [⟨1,2,0⟩] Hy;have b:=QP 2;have d:=QP 1;have e:=Hw 2 (at0 1);have f:=UY (at0 2) (UX 2 (at0 1));have g:=Hx (at0 1);have h:=Mf 2;have i:=VH 8;have j:=PZ (tx 8);have k:=UY (der 2) (use (tx 8));refine eK [2,6] func12 λX=>?_;go_simp;repeat'(first|((first|apply zd b|apply zd d|apply zd e|apply zd f|apply zd g|apply zd h|apply zd i|apply zd j|apply zd k|(refine yR [.l 19] [.l 200,.l 201,.l 202,.l 203] m ?_;intro q));try go_simp)|with_reducible first|apply ai|intro)
 refine yU [.l 203] (.l 202) 0 0 (v:=vSt_ (UZ lA)) ?_ rfl rfl rfl (by decide) (SV.own rfl rfl rfl rfl (Nat.le_of_ble_eq_true rfl) (by decide) rfl);refine yU [.l 201] (.l 200) 0 2 (v:=.vec 2 ((li lA).locals.map Ty.c)) ?_ rfl rfl rfl (by decide) (SV.own rfl rfl rfl rfl (Nat.le_of_ble_eq_true rfl) (by decide) rfl);refine yU [] (.l 202) 0 10 (v:=.vec 5 []) ?_ rfl rfl rfl (by decide) (SV.nil _ _ _);refine yU [.l 202] (.l 200) 0 3 (v:=.vec 14 ((li lA).blocks.map Bk.c)) ?_ rfl rfl rfl (by decide) (SV.own rfl rfl rfl rfl (Nat.le_of_ble_eq_true rfl) (by decide) rfl);refine yU [.l 200] (.l 1) 0 0 (v:=.vec 4 ((x6 lA).funcs.map Fn.c)) ?_ rfl rfl rfl (by decide) (SV.own rfl rfl rfl rfl (Nat.le_of_ble_eq_true rfl) (by decide) rfl);refine aO [6] ?_;go_simp;repeat'(first|((first|refine dJ [] n ?_|apply zd o);try go_simp)|with_reducible first|apply ai|intro)
 refine vo hP ⟨[(77,.l 2,7),(100,.l 2,7),(117,.l 1,0)],true⟩ [75,80,82,90,98,103,106,113] dk ?_;go_simp;repeat'(first|(apply zd p;try go_simp)|with_reducible first|apply ai|intro)
end Go.Proofs.YtllodfoldffonaaGreatDoor

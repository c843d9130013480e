/- Texts joined: AbsX. -/
import Derived.Test.YtliiahjpiagdkaaGreatJ05
import Derived.Test.YtliiahjpiagdkaaGreatJ04
import Derived.Test.YtliiahjpiagdkaaGreatJ06
set_option maxRecDepth 10000
set_option maxHeartbeats 8000000
namespace Go.Proofs.YtliiahjpiagdkaaGreat
open Go.RowKit
variable {P:Program} {n:Nat} {ops:Array Oper} {o:Oper} {F:List Nat} {S:St} {c:Cnt} {b:Upd}
def O5:Op → Bool
 | .binOp p _ _ _ _=>match p with
  | .lss|.leq|.gtr|.geq|.eql|.neq=>true
  | _=>false
 | _=>false
def O6:Op → Bool
 | .binOp .sub _ _ _ _=>true
 | _=>false
theorem QE (_:O5 o.op = true) (h:aw n P ops o F c b S):aw n P ops o F c b S:=h
theorem QF (_:O6 o.op = true) (h:aw n P ops o F c b S):aw n P ops o F c b S:=h
theorem Lb (h:aw n P ops o F c b S:=by
 first
  | exact cd (c:=.per _) ⟨rfl,rfl,rfl⟩ rfl rfl
  | exact cd (c:=.row _ _) ⟨rfl,rfl,rfl⟩ rfl rfl
  | exact cd (c:=.bor _ _) ⟨rfl,rfl,rfl⟩ rfl rfl
  | exact cd (c:=.ptr _ _ _) ⟨rfl,rfl,rfl⟩ rfl rfl
  | exact cd (c:=.tup2 _ _) ⟨rfl,rfl,rfl⟩ rfl rfl
  | exact cd (c:=.tup3 _ _ _) ⟨rfl,rfl,rfl⟩ rfl rfl
  | exact cd (c:=.ept _ _ _ _ _) ⟨rfl,rfl,rfl⟩ rfl rfl
  | exact cd (c:=.vw _ _ _ _ _) ⟨rfl,rfl,rfl⟩ rfl rfl
  | exact cd (c:=.bpt _) ⟨rfl,rfl,rfl⟩ rfl rfl
  | exact cd (c:=.clo1 _ _) ⟨rfl,rfl,rfl⟩ rfl rfl
  | exact cd (c:=.clo2 _ _ _) ⟨rfl,rfl,rfl⟩ rfl rfl
  | exact cd (c:=.clo3 _ _ _ _) ⟨rfl,rfl,rfl⟩ rfl rfl
  | exact cd (c:=.aggK _ _) ⟨rfl,rfl,rfl⟩ rfl rfl
  | exact cd (c:=.any) ⟨rfl,rfl,rfl⟩ rfl rfl
  | fail):aw n P ops o F c b S:=h
theorem Lc (h:aw n P ops o F c b S:=by
 first
  | exact ck (c:=.per _) ⟨rfl,rfl,rfl⟩ rfl rfl
  | exact ck (c:=.row _ _) ⟨rfl,rfl,rfl⟩ rfl rfl
  | exact ck (c:=.bor _ _) ⟨rfl,rfl,rfl⟩ rfl rfl
  | exact ck (c:=.ptr _ _ _) ⟨rfl,rfl,rfl⟩ rfl rfl
  | exact ck (c:=.tup3 _ _ _) ⟨rfl,rfl,rfl⟩ rfl rfl
  | exact ck (c:=.ept _ _ _ _ _) ⟨rfl,rfl,rfl⟩ rfl rfl
  | exact ck (c:=.vw _ _ _ _ _) ⟨rfl,rfl,rfl⟩ rfl rfl
  | exact ck (c:=.bpt _) ⟨rfl,rfl,rfl⟩ rfl rfl
  | exact ck (c:=.tup2 _ _) ⟨rfl,rfl,rfl⟩ rfl rfl
  | exact ck (c:=.clo1 _ _) ⟨rfl,rfl,rfl⟩ rfl rfl
  | exact ck (c:=.clo2 _ _ _) ⟨rfl,rfl,rfl⟩ rfl rfl
  | exact ck (c:=.clo3 _ _ _ _) ⟨rfl,rfl,rfl⟩ rfl rfl
  | exact ck (c:=.aggK _ _) ⟨rfl,rfl,rfl⟩ rfl rfl
  | exact ck (c:=.any) ⟨rfl,rfl,rfl⟩ rfl rfl
  | fail):aw n P ops o F c b S:=h
theorem Ld (h:aw n P ops o F c b S:=by
 first
  | (apply mC <;> first|exact ⟨rfl,rfl,rfl⟩|rfl|(intro hb0;first|rfl|exact au rfl (by rw [hb0];rfl)|exact au rfl (by simp_all)))
  | fail):aw n P ops o F c b S:=h
theorem Lf (h:aw n P ops o F c b S:=by
 first
  | exact rD ⟨rfl,rfl,rfl⟩ rfl rfl
  | exact rE ⟨rfl,rfl,rfl⟩ rfl rfl (by first|exact cn rfl rfl|exact cE|exact dB)
  | exact xT ⟨rfl,rfl,rfl⟩ rfl rfl
  | exact vE (c:=.ptr _ _ _) ⟨rfl,rfl,rfl⟩ rfl rfl (by first|exact dI (by first|exact cn rfl rfl|exact cE|exact dB)|exact dJ rfl|exact dK rfl rfl|exact dL rfl rfl|exact dg|exact dh|exact di)
  | exact vE (c:=.row _ _) ⟨rfl,rfl,rfl⟩ rfl rfl (by first|exact dI (by first|exact cn rfl rfl|exact cE|exact dB)|exact dJ rfl|exact dK rfl rfl|exact dL rfl rfl|exact dg|exact dh|exact di)
  | exact vE (c:=.clo1 _ _) ⟨rfl,rfl,rfl⟩ rfl rfl (by first|exact dI (by first|exact cn rfl rfl|exact cE|exact dB)|exact dJ rfl|exact dK rfl rfl|exact dL rfl rfl|exact dg|exact dh|exact di)
  | fail):aw n P ops o F c b S:=h
theorem Lg (h:aw n P ops o F c b S:=by
 first
  | exact Ck ⟨rfl,rfl,rfl⟩ rfl inferInstance rfl
  | fail):aw n P ops o F c b S:=h
theorem Lh (h:aw n P ops o F c b S:=by
 first
  | exact mH ⟨rfl,rfl,rfl⟩ rfl inferInstance rfl rfl rfl rfl
  | exact kq ⟨rfl,rfl,rfl⟩ rfl inferInstance inferInstance rfl rfl rfl rfl rfl rfl
  | exact ks ⟨rfl,rfl,rfl⟩ rfl inferInstance rfl rfl
  | exact kt ⟨rfl,rfl,rfl⟩ rfl inferInstance inferInstance rfl rfl rfl
  | exact ku ⟨rfl,rfl,rfl⟩ rfl inferInstance rfl rfl
  | exact kv ⟨rfl,rfl,rfl⟩ rfl inferInstance inferInstance rfl rfl rfl
  | exact K3 ⟨rfl,rfl,rfl⟩ rfl inferInstance inferInstance rfl rfl rfl rfl rfl rfl
  | fail):aw n P ops o F c b S:=h
theorem Li (h:aw n P ops o F c b S:=by
 first
  | exact xE ⟨rfl,rfl⟩ rfl inferInstance rfl rfl rfl rfl rfl (by first|exact cn rfl rfl|exact cE|exact dB)
  | exact oh ⟨rfl,rfl⟩ rfl inferInstance rfl rfl rfl rfl rfl rfl rfl
  | exact jV (c:=.ptr _ _ _) ⟨rfl,rfl⟩ rfl inferInstance rfl rfl rfl rfl rfl (by first|exact dI (by first|exact cn rfl rfl|exact cE|exact dB)|exact dJ rfl|exact dK rfl rfl|exact dL rfl rfl|exact dg|exact dh|exact di)
  | exact jV (c:=.row _ _) ⟨rfl,rfl⟩ rfl inferInstance rfl rfl rfl rfl rfl (by first|exact dI (by first|exact cn rfl rfl|exact cE|exact dB)|exact dJ rfl|exact dK rfl rfl|exact dL rfl rfl|exact dg|exact dh|exact di)
  | exact jV (c:=.clo1 _ _) ⟨rfl,rfl⟩ rfl inferInstance rfl rfl rfl rfl rfl (by first|exact dI (by first|exact cn rfl rfl|exact cE|exact dB)|exact dJ rfl|exact dK rfl rfl|exact dL rfl rfl|exact dg|exact dh|exact di)
  | exact vF ⟨rfl,rfl⟩ rfl inferInstance rfl rfl rfl rfl rfl rfl rfl
  | fail):aw n P ops o F c b S:=h
theorem Lj (h:aw n P ops o F c b S:=by
 first
  | exact qS ⟨rfl,rfl,rfl⟩ rfl inferInstance rfl rfl
  | exact kz ⟨rfl,rfl,rfl⟩ rfl inferInstance rfl
  | exact kC ⟨rfl,rfl,rfl⟩ rfl inferInstance rfl
  | exact uk ⟨rfl,rfl,rfl⟩ rfl inferInstance rfl rfl
  | fail):aw n P ops o F c b S:=h
theorem Lk (h:aw n P ops o F c b S:=by
 first
  | (apply QE;(focus rfl);exact pm ⟨rfl,rfl,rfl⟩ rfl rfl rfl rfl)
  | (apply QF;(focus rfl);first|exact gH ⟨rfl,rfl,rfl⟩ rfl rfl rfl rfl (by with_reducible exact K2 (by omega))|exact gH ⟨rfl,rfl,rfl⟩ rfl rfl rfl rfl (by with_reducible exact GA (by omega)))
  | exact gH ⟨rfl,rfl,rfl⟩ rfl rfl rfl rfl (cm (by first|omega|(simp;omega)|(simp [bF];omega)) (by first|omega|(simp;omega)|(simp [bF];omega)))
  | exact pm ⟨rfl,rfl,rfl⟩ rfl rfl rfl rfl
  | exact K5 ⟨rfl,rfl,rfl⟩ rfl rfl rfl (by first|omega|(simp;omega)|(simp [bF];omega))
  | exact K6 ⟨rfl,rfl,rfl⟩ rfl inferInstance (by first|exact Gx rfl rfl|exact MX rfl)
  | exact K7 ⟨rfl,rfl,rfl⟩ rfl inferInstance (by first|exact Gx rfl rfl|exact MX rfl)
  | exact GD ⟨rfl,rfl,rfl⟩ rfl inferInstance rfl
  | exact GF ⟨rfl,rfl,rfl⟩ rfl inferInstance rfl
  | exact FT ⟨rfl,rfl,rfl⟩ rfl rfl rfl (by first|decide|omega|(simp;omega)) (K1 (by first|omega|(simp;omega)|(simp [bF];omega)) (by first|omega|(simp;omega)|(simp [bF];omega)) (by first|omega|(simp;omega)|(simp [bF];omega)))
  | exact FV ⟨rfl,rfl,rfl⟩ rfl rfl rfl (by first|decide|omega|(simp;omega)) (K0 (by first|omega|(simp;omega)|(simp [bF];omega)))
  | exact FT ⟨rfl,rfl,rfl⟩ rfl rfl rfl (by first|decide|omega|(simp;omega)) (cm (by first|omega|(simp;omega)|(simp [bF];omega)) (by first|omega|(simp;omega)|(simp [bF];omega)))
  | exact FV ⟨rfl,rfl,rfl⟩ rfl rfl rfl (by first|decide|omega|(simp;omega)) rfl
  | exact Nz ⟨rfl,rfl,rfl⟩ rfl inferInstance (by first|exact nq rfl|exact pw rfl rfl rfl|exact pv rfl|exact py rfl) (by first|assumption|omega|(simp;done)|(simp;omega))
  | exact O3 ⟨rfl,rfl,rfl⟩ rfl inferInstance (by first|exact nq rfl|exact pw rfl rfl rfl|exact pv rfl|exact py rfl)
  | fail):aw n P ops o F c b S:=h
theorem Ll (h:aw n P ops o F c b S:=by
 first
  | exact vo ⟨rfl,rfl,rfl⟩ rfl rfl
  | fail):aw n P ops o F c b S:=h
theorem GM (h:aw n P ops o F c b S:=by
 first
  | exact pu ⟨rfl,rfl,rfl⟩ rfl inferInstance inferInstance rfl (by with_reducible exact DY _)
  | exact pu ⟨rfl,rfl,rfl⟩ rfl inferInstance inferInstance rfl (cm (by omega) (by omega))
  | exact pu ⟨rfl,rfl,rfl⟩ rfl inferInstance inferInstance rfl rfl
  | exact Nk ⟨rfl,rfl,rfl⟩ rfl inferInstance inferInstance inferInstance (by first|exact nq rfl|exact pw rfl rfl rfl|exact pv rfl|exact py rfl)
  | fail):aw n P ops o F c b S:=h
theorem GN (h:aw n P ops o F c b S:=by
 first
  | exact xJ ⟨rfl,rfl,rfl⟩ rfl inferInstance inferInstance rfl rfl (by refine ⟨?_,?_,?_,?_⟩ <;> first|rfl|exact ⟨_,_,rfl,rfl⟩|omega|(simp;done)|(simp;omega)) rfl
  | exact rI ⟨rfl,rfl,rfl⟩ rfl inferInstance inferInstance rfl rfl (by refine ⟨?_,?_,?_,?_⟩ <;> first|rfl|exact ⟨_,_,rfl,rfl⟩|omega|(simp;done)|(simp;omega)) rfl
  | exact xK ⟨rfl,rfl,rfl⟩ rfl inferInstance inferInstance rfl rfl (by refine ⟨?_,?_,?_,?_⟩ <;> first|rfl|exact ⟨_,_,rfl,rfl⟩|omega|(simp;done)|(simp;omega))
  | exact rJ ⟨rfl,rfl,rfl⟩ rfl inferInstance inferInstance rfl rfl (by refine ⟨?_,?_,?_,?_⟩ <;> first|rfl|exact ⟨_,_,rfl,rfl⟩|omega|(simp;done)|(simp;omega))
  | exact oo ⟨rfl,rfl,rfl⟩ rfl inferInstance inferInstance rfl rfl (by refine ⟨?_,?_,?_,?_⟩ <;> first|rfl|exact ⟨_,_,rfl,rfl⟩|omega|(simp;done)|(simp;omega))
  | exact kE ⟨rfl,rfl,rfl⟩ rfl inferInstance inferInstance rfl rfl (by refine ⟨?_,?_,?_,?_⟩ <;> first|rfl|exact ⟨_,_,rfl,rfl⟩|omega|(simp;done)|(simp;omega))
  | exact Cn ⟨rfl,rfl,rfl⟩ rfl inferInstance inferInstance rfl rfl (by refine ⟨?_,?_,?_,?_⟩ <;> first|rfl|exact ⟨_,_,rfl,rfl⟩|omega|(simp;done)|(simp;omega)) rfl
  | exact un ⟨rfl,rfl,rfl⟩ rfl inferInstance inferInstance rfl rfl (by refine ⟨?_,?_,?_,?_⟩ <;> first|rfl|exact ⟨_,_,rfl,rfl⟩|omega|(simp;done)|(simp;omega)) rfl
  | exact xL ⟨rfl,rfl,rfl⟩ rfl inferInstance rfl (by refine ⟨?_,?_,?_,?_⟩ <;> first|rfl|exact ⟨_,_,rfl,rfl⟩|omega|(simp;done)|(simp;omega)) rfl
  | fail):aw n P ops o F c b S:=h
theorem GP (h:aw n P ops o F c b S:=by
 first
  | exact kD ⟨rfl,rfl,rfl⟩ rfl inferInstance inferInstance rfl rfl rfl rfl (gX (by first|assumption|omega|(simp;done)|(simp;omega)))
  | exact jR ⟨rfl,rfl,rfl⟩ rfl inferInstance inferInstance rfl rfl rfl rfl (gX (by first|assumption|omega|(simp;done)|(simp;omega)))
  | exact pt ⟨rfl,rfl,rfl⟩ rfl inferInstance inferInstance rfl rfl rfl rfl rfl rfl (by first|assumption|omega|(simp;done)|(simp;omega))
  | exact kD ⟨rfl,rfl,rfl⟩ rfl inferInstance inferInstance rfl rfl rfl rfl rfl
  | exact GC ⟨rfl,rfl,rfl⟩ rfl inferInstance inferInstance rfl rfl rfl (by first|omega|(simp;omega)|(simp [bF];omega)) (by first|assumption|omega|(simp;done)|(simp;omega))
  | exact Av ⟨rfl,rfl,rfl⟩ rfl inferInstance inferInstance rfl rfl rfl (by first|omega|(simp;omega)|(simp [bF];omega)) (by first|assumption|omega|(simp;done)|(simp;omega))
  | exact Aw ⟨rfl,rfl,rfl⟩ rfl inferInstance inferInstance rfl rfl rfl rfl rfl (by first|omega|(simp;omega)|(simp [bF];omega)) (by first|assumption|omega|(simp;done)|(simp;omega))
  | exact GJ ⟨rfl,rfl,rfl⟩ rfl inferInstance inferInstance rfl rfl rfl rfl rfl (by first|assumption|omega|(simp;done)|(simp;omega))
  | fail):aw n P ops o F c b S:=h
theorem GQ (h:aw n P ops o F c b S:=by
 first
  | exact jS ⟨rfl,rfl,rfl⟩ rfl inferInstance rfl rfl rfl (List.getElem?_eq_getElem (by first|assumption|omega|(simp;done)|(simp;omega)))
  | exact D0 ⟨rfl,rfl,rfl⟩ rfl inferInstance rfl rfl (by first|omega|(simp;omega)|(simp [bF];omega)) (by first|assumption|omega|(simp;done)|(simp;omega))
  | fail):aw n P ops o F c b S:=h
theorem GR (h:aw n P ops o F c b S:=by
 first
  | (solve|(apply Cm <;> first|exact ⟨rfl,rfl,rfl⟩|rfl|infer_instance|(repeat (first|exact cv.nil|(apply cv.cons;(focus (first|exact bx rfl rfl rfl|exact fx rfl|exact fy rfl)))))))
  | (solve|(apply GB <;> first|exact ⟨rfl,rfl,rfl⟩|rfl|infer_instance|(repeat (first|exact lK.nil|(apply lK.cons;(focus (first|exact DZ rfl|exact i4 (c:=.per _) rfl (by first|exact dI (by first|exact cn rfl rfl|exact cE|exact dB)|exact dJ rfl|exact dK rfl rfl|exact dL rfl rfl|exact dg|exact dh|exact di)|exact i4 (c:=.ptr _ _ _) rfl (by first|exact dI (by first|exact cn rfl rfl|exact cE|exact dB)|exact dJ rfl|exact dK rfl rfl|exact dL rfl rfl|exact dg|exact dh|exact di)|exact i4 (c:=.row _ _) rfl (by first|exact dI (by first|exact cn rfl rfl|exact cE|exact dB)|exact dJ rfl|exact dK rfl rfl|exact dL rfl rfl|exact dg|exact dh|exact di)|exact i4 (c:=.clo1 _ _) rfl (by first|exact dI (by first|exact cn rfl rfl|exact cE|exact dB)|exact dJ rfl|exact dK rfl rfl|exact dL rfl rfl|exact dg|exact dh|exact di)|exact i4 (c:=.clo2 _ _ _) rfl (by first|exact dI (by first|exact cn rfl rfl|exact cE|exact dB)|exact dJ rfl|exact dK rfl rfl|exact dL rfl rfl|exact dg|exact dh|exact di)|exact i4 (c:=.clo3 _ _ _ _) rfl (by first|exact dI (by first|exact cn rfl rfl|exact cE|exact dB)|exact dJ rfl|exact dK rfl rfl|exact dL rfl rfl|exact dg|exact dh|exact di)|exact K4 rfl)))))))
  | fail):aw n P ops o F c b S:=h
theorem GU (h:aw n P ops o F c b S:=by
 first
  | exact ul ⟨rfl,rfl,rfl⟩ rfl inferInstance
  | (solve|(apply xI <;> first|exact ⟨rfl,rfl,rfl⟩|rfl|infer_instance|(repeat (first|exact cv.nil|(apply cv.cons;(focus (first|exact bx rfl rfl rfl|exact fx rfl|exact fy rfl)))))))
  | fail):aw n P ops o F c b S:=h
theorem GV (h:aw n P ops o F c b S:=by
 first
  | exact xm ⟨rfl,rfl,rfl⟩ rfl rfl
  | exact xn ⟨rfl,rfl,rfl⟩ rfl rfl
  | exact xp ⟨rfl,rfl,rfl⟩ rfl rfl
  | exact xq ⟨rfl,rfl,rfl⟩ rfl rfl
  | exact xr ⟨rfl,rfl,rfl⟩ rfl rfl
  | fail):aw n P ops o F c b S:=h
theorem GW (h:aw n P ops o F c b S:=by
 first
  | exact qT ⟨rfl,rfl,rfl⟩ rfl inferInstance rfl
  | exact Gd ⟨rfl,rfl,rfl⟩ rfl inferInstance rfl
  | exact xG ⟨rfl,rfl,rfl⟩ rfl inferInstance rfl
  | exact xH ⟨rfl,rfl,rfl⟩ rfl inferInstance rfl rfl rfl
  | exact xF ⟨rfl,rfl,rfl⟩ rfl inferInstance rfl
  | exact oj ⟨rfl,rfl,rfl⟩ rfl inferInstance rfl rfl rfl
  | exact oi ⟨rfl,rfl,rfl⟩ rfl inferInstance rfl
  | fail):aw n P ops o F c b S:=h
theorem GX (h:aw n P ops o F c b S:=by
 first
  | exact MV ⟨rfl,rfl,rfl⟩ rfl inferInstance rfl rfl rfl rfl (by first|exact nq rfl|exact pw rfl rfl rfl|exact pv rfl|exact py rfl) (by first|omega|(simp;done)|(simp;omega)|(simp [bF];done)|(simp [bF];omega)|(simp at *;omega)) rfl
  | exact Gf ⟨rfl,rfl,rfl⟩ rfl inferInstance inferInstance inferInstance rfl rfl rfl rfl (by first|omega|(simp;done)|(simp;omega)|(simp [bF];done)|(simp [bF];omega)|(simp at *;omega))
  | fail):aw n P ops o F c b S:=h
theorem GY (h:aw n P ops o F c b S:=by
 first
  | exact GH ⟨rfl,rfl,rfl⟩ rfl rfl rfl
  | exact Nu ⟨rfl,rfl,rfl⟩ rfl rfl rfl
  | fail):aw n P ops o F c b S:=h
theorem GZ (h:aw n P ops o F c b S:=by
 first
  | exact KV ⟨rfl,rfl,rfl⟩ rfl rfl rfl
  | exact Ap ⟨rfl,rfl,rfl⟩ rfl rfl
  | fail):aw n P ops o F c b S:=h
theorem G1 (h:aw n P ops o F c b S:=by
 first
  | exact KW ⟨rfl,rfl,rfl⟩ rfl
  | exact KX ⟨rfl,rfl,rfl⟩ rfl
  | exact KY ⟨rfl,rfl,rfl⟩ rfl
  | exact KZ ⟨rfl,rfl,rfl⟩ rfl
  | fail):aw n P ops o F c b S:=h
theorem G2 (h:aw n P ops o F c b S:=by
 first
  | (apply bn 8;(focus rfl);exact Lk)
  | (apply bn 5;(focus rfl);exact Lh)
  | (apply bn 0;(focus rfl);exact Lb)
  | (apply bn 1;(focus rfl);exact Lc)
  | (apply bn 7;(focus rfl);exact Lj)
  | (apply bn 12;(focus rfl);exact GP)
  | (apply bn 2;(focus rfl);exact Ld)
  | (apply bn 6;(focus rfl);exact Li)
  | (apply bn 10;(focus rfl);exact GM)
  | (apply bn 14;(focus rfl);exact GR)
  | (apply bn 3;(focus rfl);exact Lf)
  | (apply bn 4;(focus rfl);exact Lg)
  | (apply bn 9;(focus rfl);exact Ll)
  | (apply bn 11;(focus rfl);exact GN)
  | (apply bn 13;(focus rfl);exact GQ)
  | (apply bn 15;(focus rfl);exact GU)
  | (apply bn 16;(focus rfl);exact GV)
  | (apply bn 17;(focus rfl);exact GW)
  | (apply bn 18;(focus rfl);exact GX)
  | (apply bn 19;(focus rfl);exact GY)
  | (apply bn 21;(focus rfl);exact GZ)
  | (apply bn 22;(focus rfl);exact G1)
  | fail):aw n P ops o F c b S:=h
theorem iH (h:aw n P ops o F c b S:=by
 first
  | (apply b8;(focus rfl);first|(apply ah rfl rfl rfl rfl rfl;first|(apply bn 2;(focus rfl);first|exact ur ⟨rfl,rfl,rfl⟩ rfl rfl rfl rfl|exact ut ⟨rfl,rfl,rfl⟩ rfl rfl rfl rfl)|exact G2)|exact Nt rfl rfl rfl rfl rfl rfl rfl|exact GG rfl rfl rfl rfl rfl rfl)
  | (apply bn 2;(focus rfl);first|exact ur ⟨rfl,rfl,rfl⟩ rfl rfl rfl rfl|exact ut ⟨rfl,rfl,rfl⟩ rfl rfl rfl rfl)
  | exact G2):aw n P ops o F c b S:=h
end Go.Proofs.YtliiahjpiagdkaaGreat
namespace Go.Proofs.YtliiahjpiagdkaaGreat
open Go.RowKit
def Ret.frz:Ret → Ret
 | .per A=>.per A
 | .own _ k es=>.per (cD k es)
 | .tup2 c d=>.tup2 c.frz d.frz
 | .tup3 c d e=>.tup3 c.frz d.frz e.frz
theorem Ret.frz_rep {N0:BP} {w w':World} (hN:∀ b,N0 b → b < w.heap.size):∀ {r:Ret} {v:Value},r.rep N0 w w' v → r.frz.rep N0 w w' v:=by
 intro r
 induction r with
 | per A=>intro v h;exact h
 | own e k es=>
  intro v h
  show dW N0 N0 k es w' v
  rcases h with ⟨rfl,rfl⟩|⟨q,cap,cs,rfl,hq,hh,h1,h2,h3,h4⟩
  ·exact ⟨none,0,0,0,rfl,by simp,by decide,fun _=>rfl,by simp,fun i cs hi=>by simp at hi⟩
  ·have hlt:q < w'.heap.size:=by
    rcases Nat.lt_or_ge q w'.heap.size with h|h
    ·exact h
    ·rw [Array.getElem?_eq_none h] at hh;cases hh
   refine ⟨_,cap,q,0,rfl,h1,h2,by simp,fun _=>⟨rfl,hlt,fun hn=>by have:=hN q hn;omega⟩,fun i ps hi=>?_⟩
   obtain ⟨r1,r2⟩:=h4 i ps hi
   refine ⟨r1,fun j A hj=>?_⟩
   obtain ⟨y,s1,s2,s3⟩:=r2 j A hj
   exact ⟨y,by rw [Nat.zero_add,eo hh];exact s1,s2,A.mono (Nat.le_refl _) (fun _ _ _=>rfl) (fun b _ hb=>.inl hb) s3⟩
 | tup2 c d ih1 ih2=>rintro v ⟨x,y,rfl,h1,h2⟩;exact ⟨x,y,rfl,ih1 h1,ih2 h2⟩
 | tup3 c d e ih1 ih2 ih3=>rintro v ⟨x,y,z,rfl,h1,h2,h3⟩;exact ⟨x,y,z,rfl,ih1 h1,ih2 h2,ih3 h3⟩
theorem Fn.frz {P:Program} {f:FuncId} {As:List Cnt} {r:Ret} (h:Fn P f As r):Fn P f As r.frz:=
 ⟨h.ent,fun N0 w vs hN ha=>Calls.mono (h.run N0 w vs hN ha) fun _ _ ⟨v,h1,h2,h3⟩=>⟨v,h1,h2,Ret.frz_rep hN h3⟩⟩
section
variable {P:Program} {n:Nat} {ops:Array Oper} {o:Oper} {S:St}
theorem Lm {f:FuncId} {x0:Operand} {xs:List Operand} {As:List Cnt} {pre post:List (Nat × Blk)} {r:Cnt} (sg:List (Nat × Nat)) (hf:de P f As pre r post) (hp:DP n o:=by exact ⟨rfl,rfl⟩) (ho:iR o x0 xs:=by exact ⟨_,rfl⟩) (hx:S.opd x0 = .per (av (.func (.func f) #[] #[])):=by rfl) (hok:Gm sg = true:=by rfl)
 (hg:qm S sg xs As:=by first|((repeat (first|exact qm.nil|(refine qm.cons ?_ ?_;focus (first|exact nr rfl|exact nt rfl|exact nv rfl rfl rfl rfl|exact nu rfl|exact nx rfl|exact kI rfl|exact lL rfl rfl))));done)|fail) (hpre:lg S sg pre:=by first|((repeat (first|exact lg.nil|(refine lg.cons rfl rfl ?_)));done)|fail):aw n P ops o (aA x0 ++ (eh S xs ++ vG sg)) (r.mp false (jy sg) z0 (tG S.ver sg)) (lF S post sg sg) S:=
 jU (cs:=[]) sg hp ho (xS hx (fun k h=>by simp [h])) (by simpa using hf) hok (fun p h=>by simp [rQ p h]) (hg.gives (fun _ h=>by simp at h ⊢;exact .inr (.inl h)) (fun _ h=>by simp [h])) hpre
end
end Go.Proofs.YtliiahjpiagdkaaGreat
namespace Go.Proofs.YtliiahjpiagdkaaGreat
open Go.RowKit
class Cl (b:Bool) (p q:outParam Prop):Prop where
 t:b = true → p
 f:b = false → q
instance (priority:=low) {b:Bool}:Cl b (b = true) (b = false):=⟨fun h=>h,fun h=>h⟩
instance {p:Prop} [d:Decidable p]:Cl (decide p) p (¬ p):=⟨of_decide_eq_true,of_decide_eq_false⟩
instance {α:Type} [BEq α] [LawfulBEq α] {a b:α}:Cl (a == b) (a = b) (a ≠ b):=⟨beq_iff_eq.1,beq_eq_false_iff_ne.1⟩
instance {α:Type} [BEq α] [LawfulBEq α] {a b:α}:Cl (a != b) (a ≠ b) (a = b):=⟨bne_iff_ne.1,bne_eq_false_iff_eq.1⟩
instance {b:Bool} {p q:Prop} [h:Cl b p q]:Cl (!b) q p:=⟨fun e=>h.f (by simpa using e),fun e=>h.t (by simpa using e)⟩
section
variable {P:Program} {n t:Nat} {ops:Array Oper} {o:Oper} {F:List Nat} {S:St} {c:Cnt} {b:Upd}
theorem nf {Q:Exit → St → Prop} {c:Operand} {x y:Code} {b:Bool} {p q:Prop} (hc:c = .tmp t) (hb:S.get t = bC b) [h:Cl b p q] (k:(p → AW P n x Q S) ∧ (q → AW P n y Q S)):AW P n (.cond c x y) Q S:=
 f9 hc hb (fun e=>k.1 (h.t e)) (fun e=>k.2 (h.f e))
theorem ng {l:List Oper} {Q:St → Prop} {j tg:Nat} {want b:Bool} {p q:Prop} (h1:o.guard = some (j,want)) (h2:(ops[j]?).bind (·.dst) = some tg) (hb:S.get tg = bC b) [h:Cl b p q]
 (k:(p → AL P n ops Q (o :: l) (S.put (some tg) (bC true))) ∧ (q → AL P n ops Q (o :: l) (S.put (some tg) (bC false)))):AL P n ops Q (o :: l) S:=
 mJ h1 h2 hb (fun e=>k.1 (h.t e)) (fun e=>k.2 (h.f e))
theorem nh {l:List Oper} {Q:St → Prop} {done:List (List Nat × List Nat)} {j tg:Nat} {want b:Bool} {p q:Prop} (h1:o.guard = some (j,want)) (h2:(ops[j]?).bind (·.dst) = some tg) (hb:S.get tg = bC b) [h:Cl b p q]
 (k:(p → AD P n ops Q done (o :: l) (S.put (some tg) (bC true))) ∧ (q → AD P n ops Q done (o :: l) (S.put (some tg) (bC false)))):AD P n ops Q done (o :: l) S:=
 mK h1 h2 hb (fun e=>k.1 (h.t e)) (fun e=>k.2 (h.f e))
theorem gg {p G:Prop} (hc:p) (h:p → False:=by
 intro hc
 first
  | contradiction
  | omega
  | (simp [*] at hc;done)
  | fail):G:=(h hc).elim
theorem qo {f:FuncId} {As:List Cnt} {r:Ret} (hf:Fn P f As r) (h:Fn P f As r → aw n P ops o F c b S:=by
 intro hf
 first
  | exact PM hf
  | exact FF hf
  | exact O2 hf
  | (apply b8;(focus rfl);apply ah rfl rfl rfl rfl rfl;first|exact PM hf|exact FF hf|exact O2 hf|fail)
  | fail):aw n P ops o F c b S:=h hf
theorem vJ {f:FuncId} {As:List Cnt} {pre post:List (Nat × Blk)} {r:Cnt} (hf:de P f As pre r post) (h:de P f As pre r post → aw n P ops o F c b S:=by
 intro hf
 first
  | exact Qp hf
  | (apply b8;(focus rfl);apply ah rfl rfl rfl rfl rfl;exact Qp hf)
  | fail):aw n P ops o F c b S:=h hf
theorem NA {f:FuncId} {As:List Cnt} {pre post:List (Nat × Blk)} {r:Cnt} (hf:de P f As pre r post) (h:de P f As pre r post → aw n P ops o F c b S:=by
 intro hf
 first
  | exact Qq hf
  | (apply b8;(focus rfl);apply ah rfl rfl rfl rfl rfl;exact Qq hf)
  | fail):aw n P ops o F c b S:=h hf
def fv (_:List (Nat × Nat)) (P:Program) (f:FuncId) (As:List Cnt) (pre:List (Nat × Blk)) (r:Cnt) (post:List (Nat × Blk)):Prop:=de P f As pre r post
theorem Ln {sg:List (Nat × Nat)} {f:FuncId} {xs:List Operand} {As:List Cnt} {pre post:List (Nat × Blk)} {r:Cnt} (hf:fv sg P f As pre r post) (hp:DP n o:=by exact ⟨rfl,rfl⟩) (ho:iR o (.func f) xs:=by exact ⟨_,rfl⟩) (hok:Gm sg = true:=by rfl)
 (hg:qm S sg xs As:=by first|((repeat (first|exact qm.nil|(refine qm.cons ?_ ?_;focus (first|exact nr rfl|exact nt rfl|exact nv rfl rfl rfl rfl|exact nu rfl|exact nx rfl|exact kI rfl|exact lL rfl rfl))));done)|fail) (hpre:lg S sg pre:=by first|((repeat (first|exact lg.nil|(refine lg.cons rfl rfl ?_)));done)|fail):aw n P ops o (eh S xs ++ vG sg) (r.mp false (jy sg) z0 (tG S.ver sg)) (lF S post sg sg) S:=QD sg hf hp ho hok hg hpre
theorem D5 {f:FuncId} {As:List Cnt} {pre post:List (Nat × Blk)} {r:Cnt} (sg:List (Nat × Nat)) (hf:de P f As pre r post) (h:fv sg P f As pre r post → aw n P ops o F c b S:=by
 intro hf
 first
  | exact Ln hf
  | (apply b8;(focus rfl);apply ah rfl rfl rfl rfl rfl;exact Ln hf)
  | fail):aw n P ops o F c b S:=h hf
end
end Go.Proofs.YtliiahjpiagdkaaGreat
namespace Go.Proofs.YtliiahjpiagdkaaGreat
open Go.RowKit
structure W2 (A B:Prop):Prop where
 l:A
 r:B
structure W1 (p:Prop) (A:p → Prop):Prop where
 h:∀ h:p,A h
structure Kq (A:Prop):Prop where
 h:A
theorem Kq.l {p:Prop} {A:p → Prop} (k:Kq (W1 p A)) (h:p):Kq (A h):=⟨k.h.h h⟩
theorem Kq.a {p B:Prop} {A:p → Prop} (k:Kq (W2 (W1 p A) B)) (h:p):Kq (A h):=⟨k.h.l.h h⟩
theorem Kq.b {p B:Prop} {A:p → Prop} (k:Kq (W2 B (W1 p A))) (h:p):Kq (A h):=⟨k.h.r.h h⟩
section
variable {P:Program} {n t:Nat} {ops:Array Oper} {o:Oper} {F:List Nat} {S:St} {c:Cnt} {b:Upd} {l:List Oper} {done:List (List Nat × List Nat)} {j tg:Nat} {want v:Bool} {p q:Prop} {Qa:p → Prop} {Qb:q → Prop}
section
variable {Q:Exit → St → Prop} {c:Operand} {x y:Code}
theorem Az (k:Kq (W2 (W1 p Qa) (W1 q Qb))) (hc:c = .tmp t) (hb:S.get t = bC v) [h:Cl v p q] (ka:(h:p) → Kq (Qa h) → AW P n x Q S) (kb:(h:q) → Kq (Qb h) → AW P n y Q S):AW P n (.cond c x y) Q S:=
 f9 hc hb (fun e=>ka (h.t e) (k.a (h.t e))) (fun e=>kb (h.f e) (k.b (h.f e)))
theorem AA (k:Kq (W1 p Qa)) (hc:c = .tmp t) (hb:S.get t = bC v) [h:Cl v p q] (hq:q → False) (ka:(h:p) → Kq (Qa h) → AW P n x Q S):AW P n (.cond c x y) Q S:=
 f9 hc hb (fun e=>ka (h.t e) (k.l (h.t e))) (fun e=>(hq (h.f e)).elim)
theorem AB (k:Kq (W1 q Qb)) (hc:c = .tmp t) (hb:S.get t = bC v) [h:Cl v p q] (hp:p → False) (kb:(h:q) → Kq (Qb h) → AW P n y Q S):AW P n (.cond c x y) Q S:=
 f9 hc hb (fun e=>(hp (h.t e)).elim) (fun e=>kb (h.f e) (k.l (h.f e)))
theorem AC {es:List (List PV)} {Qa:es = [] → Prop} {Qb:Prop} (k:Kq (W2 (W1 (es = []) Qa) Qb)) (hc:c = .tmp t) (hb:S.get t = .per (Ny es)) (ka:(h:es = []) → Kq (Qa h) → AW P n x Q S) (kb:Kq Qb → AW P n y Q S):AW P n (.cond c x y) Q S:=
 cX hc hb (fun e=>ka e (k.a e)) (kb ⟨k.h.r⟩)
end
variable {Q:St → Prop}
theorem G3 (k:Kq (W2 (W1 p Qa) (W1 q Qb))) (h1:o.guard = some (j,want)) (h2:(ops[j]?).bind (·.dst) = some tg) (hb:S.get tg = bC v) [h:Cl v p q]
 (ka:(h:p) → Kq (Qa h) → AL P n ops Q (o :: l) (S.put (some tg) (bC true))) (kb:(h:q) → Kq (Qb h) → AL P n ops Q (o :: l) (S.put (some tg) (bC false))):AL P n ops Q (o :: l) S:=
 mJ h1 h2 hb (fun e=>ka (h.t e) (k.a (h.t e))) (fun e=>kb (h.f e) (k.b (h.f e)))
theorem G4 (k:Kq (W1 p Qa)) (h1:o.guard = some (j,want)) (h2:(ops[j]?).bind (·.dst) = some tg) (hb:S.get tg = bC v) [h:Cl v p q]
 (hq:q → False) (ka:(h:p) → Kq (Qa h) → AL P n ops Q (o :: l) (S.put (some tg) (bC true))):AL P n ops Q (o :: l) S:=
 mJ h1 h2 hb (fun e=>ka (h.t e) (k.l (h.t e))) (fun e=>(hq (h.f e)).elim)
theorem G5 (k:Kq (W1 q Qb)) (h1:o.guard = some (j,want)) (h2:(ops[j]?).bind (·.dst) = some tg) (hb:S.get tg = bC v) [h:Cl v p q]
 (hp:p → False) (kb:(h:q) → Kq (Qb h) → AL P n ops Q (o :: l) (S.put (some tg) (bC false))):AL P n ops Q (o :: l) S:=
 mJ h1 h2 hb (fun e=>(hp (h.t e)).elim) (fun e=>kb (h.f e) (k.l (h.f e)))
theorem G6 (k:Kq (W2 (W1 p Qa) (W1 q Qb))) (h1:o.guard = some (j,want)) (h2:(ops[j]?).bind (·.dst) = some tg) (hb:S.get tg = bC v) [h:Cl v p q]
 (ka:(h:p) → Kq (Qa h) → AD P n ops Q done (o :: l) (S.put (some tg) (bC true))) (kb:(h:q) → Kq (Qb h) → AD P n ops Q done (o :: l) (S.put (some tg) (bC false))):AD P n ops Q done (o :: l) S:=
 mK h1 h2 hb (fun e=>ka (h.t e) (k.a (h.t e))) (fun e=>kb (h.f e) (k.b (h.f e)))
theorem G7 (k:Kq (W1 p Qa)) (h1:o.guard = some (j,want)) (h2:(ops[j]?).bind (·.dst) = some tg) (hb:S.get tg = bC v) [h:Cl v p q]
 (hq:q → False) (ka:(h:p) → Kq (Qa h) → AD P n ops Q done (o :: l) (S.put (some tg) (bC true))):AD P n ops Q done (o :: l) S:=
 mK h1 h2 hb (fun e=>ka (h.t e) (k.l (h.t e))) (fun e=>(hq (h.f e)).elim)
theorem G8 (k:Kq (W1 q Qb)) (h1:o.guard = some (j,want)) (h2:(ops[j]?).bind (·.dst) = some tg) (hb:S.get tg = bC v) [h:Cl v p q]
 (hp:p → False) (kb:(h:q) → Kq (Qb h) → AD P n ops Q done (o :: l) (S.put (some tg) (bC false))):AD P n ops Q done (o :: l) S:=
 mK h1 h2 hb (fun e=>(hp (h.t e)).elim) (fun e=>kb (h.f e) (k.l (h.f e)))
end
section
variable {P:Program} {n t:Nat} {ops:Array Oper} {o:Oper} {S:St}
theorem G9 {ty ty':TypeId} {x y:Operand} {k k':IntKind} {p q z:Int} (hp:Pl n o t) (ho:o.op = .binOp .shr ty x y ty') (hx:S.opd x = iC k p) (hy:S.opd y = iC k' q) (hq:0 ≤ q) (hz:p / 2 ^ min q.toNat k.bits = z):aw n P ops o (aA x ++ aA y) (iC k z) [] S:=
 aM hp fun C T g a w hA hR=>by
  have h1:=aV (x:=x) hA (fun k h=>by simp [h]) hR hx
  have h2:=aV (x:=y) hA (fun k h=>by simp [h]) hR hy
  subst hz
  refine ⟨.int k (p / 2 ^ min q.toNat k.bits),ij ho h1 h2 ?_,rfl⟩
  rw [show eqGuard .shr ty x y (.int k p) (.int k' q) = pure () from rfl]
  simp only [binOp_shr,shift_shr_any k k' p q hq]
  rfl
end
theorem wrap_u64 {z:Int} (h1:0 ≤ z) (h2:z ≤ 18446744073709551615):IntKind.u64.wrap z = z:=by
 simp [IntKind.wrap,IntKind.bits,IntKind.signed];omega
theorem Ha {z h:Int} (e:z / 2 = h):z / 2 ^ min (1:Int).toNat IntKind.u64.bits = h:=by
 rw [show min (1:Int).toNat IntKind.u64.bits = 1 from rfl,Int.pow_one];exact e
section
variable {P:Program} {n t:Nat} {ops:Array Oper} {o:Oper} {F:List Nat} {S:St} {c:Cnt} {b:Upd}
theorem D6 {sg:List (Nat × Nat)} {f:FuncId} {As:List Cnt} {pre post:List (Nat × Blk)} {r:Cnt} (hf:fv sg P f As pre r post) (h:fv sg P f As pre r post → aw n P ops o F c b S:=by
 intro hf
 first
  | exact Ln hf
  | (apply b8;(focus rfl);apply ah rfl rfl rfl rfl rfl;exact Ln hf)
  | fail):aw n P ops o F c b S:=h hf
theorem D7 {f:FuncId} {As:List Cnt} {r:Ret} (hf:Fn P f As r) (h:Fn P f As r → aw n P ops o F c b S:=by
 intro hf
 first
  | (refine FF (hf) (hg:=?_);((repeat (first|exact GL.nil|(refine GL.cons ?_ ?_;focus (first|exact bq rfl|exact bI rfl|exact cP rfl rfl rfl|exact bJ rfl|exact cQ rfl|exact ce rfl))));done))
  | (apply b8;(focus rfl);apply ah rfl rfl rfl rfl rfl;(refine FF (hf) (hg:=?_);((repeat (first|exact GL.nil|(refine GL.cons ?_ ?_;focus (first|exact bq rfl|exact bI rfl|exact cP rfl rfl rfl|exact bJ rfl|exact cQ rfl|exact ce rfl))));done)))
  | fail):aw n P ops o F c b S:=h hf
theorem vK {f:FuncId} {As:List Cnt} {r:Ret} (hf:Fn P f As r) (h:Fn P f As r → aw n P ops o F c b S:=by
 intro hf
 first
  | (refine PM (hf) (hg:=?_);((repeat (first|exact GL.nil|(refine GL.cons ?_ ?_;focus (first|exact bq rfl|exact bI rfl|exact cP rfl rfl rfl|exact bJ rfl|exact cQ rfl|exact ce rfl))));done))
  | (apply b8;(focus rfl);apply ah rfl rfl rfl rfl rfl;(refine PM (hf) (hg:=?_);((repeat (first|exact GL.nil|(refine GL.cons ?_ ?_;focus (first|exact bq rfl|exact bI rfl|exact cP rfl rfl rfl|exact bJ rfl|exact cQ rfl|exact ce rfl))));done)))
  | fail):aw n P ops o F c b S:=h hf
theorem AE (h:aw n P ops o F c b S:=by
 first
  | (apply bn 20;(focus rfl);first|exact qo kc1|exact qo kc2|exact qo kc3|exact qo kc4|exact qo kc5|exact qo kc6|exact qo kc7|exact qo kc8|exact qo kc9|exact qo kc10|exact qo kc11|exact qo kc12|exact qo kc13|exact qo kc14|exact qo kc15|exact qo kc16|exact vK kf1|exact vK kf2|exact vK kf3|exact vK kf4|exact vK kf5|exact vK kf6|exact vK kf7|exact vK kf8|exact vK kf9|exact D7 ko1|exact D7 ko2|exact D7 ko3|exact D7 ko4|exact D7 ko5|exact D7 ko6|exact vJ kr1|exact vJ kr2|exact vJ kr3|exact vJ kr4|exact vJ kr5|exact vJ kr6|exact vJ kr7|exact vJ kr8|exact vJ kr9|exact NA kn1|exact NA kn2|exact NA kn3|exact D6 km1|exact D6 km2|exact D6 km3|exact D6 km4|exact D6 km5|exact D6 km6|fail)
  | fail):aw n P ops o F c b S:=h
theorem Lo (h:aw n P ops o F c b S:=by
 first|exact gH ⟨rfl,rfl,rfl⟩ rfl rfl rfl rfl ((cm (by omega) (by omega)).trans ke1.out)|exact gH ⟨rfl,rfl,rfl⟩ rfl rfl rfl rfl ((cm (by omega) (by omega)).trans ke2.out)|exact gH ⟨rfl,rfl,rfl⟩ rfl rfl rfl rfl ((cm (by omega) (by omega)).trans ke3.out)|fail):aw n P ops o F c b S:=h
theorem Lp (h:aw n P ops o F c b S:=by
 first|exact bm ⟨rfl,rfl,rfl⟩ rfl inferInstance rfl rfl rfl kL1.out rfl|exact aB ⟨rfl,rfl,rfl⟩ rfl inferInstance inferInstance rfl rfl rfl kL1.out rfl rfl rfl|exact bm ⟨rfl,rfl,rfl⟩ rfl inferInstance rfl rfl rfl kL2.out rfl|exact aB ⟨rfl,rfl,rfl⟩ rfl inferInstance inferInstance rfl rfl rfl kL2.out rfl rfl rfl|exact bm ⟨rfl,rfl,rfl⟩ rfl inferInstance rfl rfl rfl kL3.out rfl|exact aB ⟨rfl,rfl,rfl⟩ rfl inferInstance inferInstance rfl rfl rfl kL3.out rfl rfl rfl|fail):aw n P ops o F c b S:=h
theorem Lq (h:aw n P ops o F c b S:=by
 first|exact aX ⟨rfl,rfl⟩ rfl inferInstance rfl rfl rfl rfl kL1.out rfl (by first|exact bx rfl rfl rfl|exact .inl rfl) rfl kS1.out|exact aX ⟨rfl,rfl⟩ rfl inferInstance rfl rfl rfl rfl kL1.out rfl (by first|exact bx rfl rfl rfl|exact .inl rfl) rfl kS2.out|exact aX ⟨rfl,rfl⟩ rfl inferInstance rfl rfl rfl rfl kL2.out rfl (by first|exact bx rfl rfl rfl|exact .inl rfl) rfl kS1.out|exact aX ⟨rfl,rfl⟩ rfl inferInstance rfl rfl rfl rfl kL2.out rfl (by first|exact bx rfl rfl rfl|exact .inl rfl) rfl kS2.out|fail):aw n P ops o F c b S:=h
theorem Lr (h:aw n P ops o F c b S:=by
 first|exact G9 ⟨rfl,rfl,rfl⟩ rfl rfl rfl (by decide) (Ha kh1.out)|exact G9 ⟨rfl,rfl,rfl⟩ rfl rfl rfl (by decide) (Ha kh2.out)|fail):aw n P ops o F c b S:=h
theorem NB (h:aw n P ops o F c b S:=by
 first
  | (apply bn 8;(focus rfl);have e:=kh1;exact Lr)
  | (apply bn 10;(focus rfl);have e:=kh1;exact pu ⟨rfl,rfl,rfl⟩ rfl inferInstance inferInstance rfl (by with_reducible exact wrap_u64 (by omega) (by omega)))
  | (apply bn 8;(focus rfl);have e:=ke1;exact Lo)
  | (apply bn 5;(focus rfl);have e:=kL1;exact Lp)
  | (apply bn 6;(focus rfl);have e:=kS1;exact Lq)
  | fail):aw n P ops o F c b S:=h
end
theorem uu {G:Prop} (h:G:=by
 repeat' (first
  | refine fS ?_
  | refine dx ?_
  | refine ei ?_
  | refine ej ?_
  | refine fT ?_
  | refine cO ?_
  | refine e9 gK ?_
  | refine fQ ?_
  | refine fR (by kernel_rfl) ?_
  | ((first|apply aO rfl|apply aP rfl|apply aQ rfl|apply aR rfl);focus (first|exact iH|exact AE|fail))
  | (apply AA k rfl rfl;(focus (clear k;intro hc;(repeat rw [List.length_map] at hc);exact gg hc));intro hc k;(repeat rw [List.length_map] at hc))
  | (apply AB k rfl rfl;(focus (clear k;intro hc;(repeat rw [List.length_map] at hc);exact gg hc));intro hc k;(repeat rw [List.length_map] at hc))
  | (apply Az k rfl rfl;(case' ka=>intro hc k;(repeat rw [List.length_map] at hc));(case' kb=>intro hc k;(repeat rw [List.length_map] at hc)))
  | with_reducible refine ep ?_
  | with_reducible refine eu ?_
  | with_reducible refine ev ?_
  | with_reducible refine jb ?_
  | with_reducible refine jc ?_
  | with_reducible refine ew ?_
  | refine dy rfl ?_
  | ((first|apply G4 k rfl rfl rfl|apply G7 k rfl rfl rfl);(focus (clear k;intro hc;(repeat rw [List.length_map] at hc);exact gg hc));intro hc k;(fail_if_success (have q:(true = true):=hc));(fail_if_success (have q:(false = false):=hc)))
  | ((first|apply G5 k rfl rfl rfl|apply G8 k rfl rfl rfl);(focus (clear k;intro hc;(repeat rw [List.length_map] at hc);exact gg hc));intro hc k;(fail_if_success (have q:(true = true):=hc));(fail_if_success (have q:(false = false):=hc)))
  | ((first|apply G3 k rfl rfl rfl|apply G6 k rfl rfl rfl);(case' ka=>intro hc k;(fail_if_success (have q:(true = true):=hc));(fail_if_success (have q:(false = false):=hc)));(case' kb=>intro hc k;(fail_if_success (have q:(true = true):=hc));(fail_if_success (have q:(false = false):=hc))))
  | (apply AC k rfl rfl;(case' ka=>intro hc k);(case' kb=>intro k))
  | exact k.h)):G:=h
theorem lh {G:Prop} (h:G:=by
 repeat' (first
  | refine fS ?_
  | refine dx ?_
  | refine ei ?_
  | refine ej ?_
  | refine fT ?_
  | refine cO ?_
  | refine e9 gK ?_
  | refine fQ ?_
  | refine fR (by kernel_rfl) ?_
  | ((first|apply aO rfl|apply aP rfl|apply aQ rfl|apply aR rfl);focus (first|exact NB|exact iH|exact AE|fail))
  | (apply AA k rfl rfl;(focus (clear k;intro hc;(repeat rw [List.length_map] at hc);exact gg hc));intro hc k;(repeat rw [List.length_map] at hc))
  | (apply AB k rfl rfl;(focus (clear k;intro hc;(repeat rw [List.length_map] at hc);exact gg hc));intro hc k;(repeat rw [List.length_map] at hc))
  | (apply Az k rfl rfl;(case' ka=>intro hc k;(repeat rw [List.length_map] at hc));(case' kb=>intro hc k;(repeat rw [List.length_map] at hc)))
  | with_reducible refine ep ?_
  | with_reducible refine eu ?_
  | with_reducible refine ev ?_
  | with_reducible refine jb ?_
  | with_reducible refine jc ?_
  | with_reducible refine ew ?_
  | refine dy rfl ?_
  | ((first|apply G4 k rfl rfl rfl|apply G7 k rfl rfl rfl);(focus (clear k;intro hc;(repeat rw [List.length_map] at hc);exact gg hc));intro hc k;(fail_if_success (have q:(true = true):=hc));(fail_if_success (have q:(false = false):=hc)))
  | ((first|apply G5 k rfl rfl rfl|apply G8 k rfl rfl rfl);(focus (clear k;intro hc;(repeat rw [List.length_map] at hc);exact gg hc));intro hc k;(fail_if_success (have q:(true = true):=hc));(fail_if_success (have q:(false = false):=hc)))
  | ((first|apply G3 k rfl rfl rfl|apply G6 k rfl rfl rfl);(case' ka=>intro hc k;(fail_if_success (have q:(true = true):=hc));(fail_if_success (have q:(false = false):=hc)));(case' kb=>intro hc k;(fail_if_success (have q:(true = true):=hc));(fail_if_success (have q:(false = false):=hc))))
  | (apply AC k rfl rfl;(case' ka=>intro hc k);(case' kb=>intro k))
  | exact k.h)):G:=h
theorem P6 {G:Prop} (h:G:=by
 repeat' (first
  | refine fS ?_
  | refine dx ?_
  | refine ei ?_
  | refine ej ?_
  | refine fT ?_
  | refine cO ?_
  | refine e9 gK ?_
  | refine fQ ?_
  | refine fR (by kernel_rfl) ?_
  | ((first|apply aO rfl|apply aP rfl|apply aQ rfl|apply aR rfl);focus (first|exact Ay|exact AE|fail))
  | (apply AA k rfl rfl;(focus (clear k;intro hc;(repeat rw [List.length_map] at hc);exact gg hc));intro hc k;(repeat rw [List.length_map] at hc))
  | (apply AB k rfl rfl;(focus (clear k;intro hc;(repeat rw [List.length_map] at hc);exact gg hc));intro hc k;(repeat rw [List.length_map] at hc))
  | (apply Az k rfl rfl;(case' ka=>intro hc k;(repeat rw [List.length_map] at hc));(case' kb=>intro hc k;(repeat rw [List.length_map] at hc)))
  | with_reducible refine ep ?_
  | with_reducible refine eu ?_
  | with_reducible refine ev ?_
  | with_reducible refine jb ?_
  | with_reducible refine jc ?_
  | with_reducible refine ew ?_
  | refine dy rfl ?_
  | (apply AC k rfl rfl;(case' ka=>intro hc k);(case' kb=>intro k))
  | exact k.h)):G:=h
theorem w0 {Q G:Prop} (k:Q) (h:Kq Q → G:=by
 intro k
 exact uu):G:=h ⟨k⟩
theorem qp {Q G:Prop} (k:Q) (h:Kq Q → G:=by
 intro k
 exact lh):G:=h ⟨k⟩
theorem wH {Q G:Prop} (k:Q) (h:Kq Q → G:=by
 intro k
 exact P6):G:=h ⟨k⟩
theorem ai {A B:Prop} (a:A) (b:B):W2 A B:=⟨a,b⟩
theorem aj {p:Prop} {A:p → Prop} (h:∀ h:p,A h):W1 p A:=⟨h⟩
theorem mN {P:Program} {f:FuncId} {As:List Cnt} {pre:List (Nat × Blk)} {r:Cnt} {post:List (Nat × Blk)} (h:de P f As pre r post):fv [(1000,1000)] P f As pre r post:=h
theorem gj (s:List (Nat × Nat)) {P:Program} {f:FuncId} {As:List Cnt} {pre:List (Nat × Blk)} {r:Cnt} {post:List (Nat × Blk)} (h:de P f As pre r post):fv s P f As pre r post:=h
theorem az {Q G:Prop} {A0:Prop} (x0:A0) (k:Q) (h:A0 → Kq Q → G:=by
 intro kc1 k
 exact uu):G:=h x0 ⟨k⟩
theorem Hb {Q G:Prop} {A0 A1:Prop} (x0:A0) (x1:A1) (k:Q) (h:A0 → A1 → Kq Q → G:=by
 intro kc1 kf1 k
 exact uu):G:=h x0 x1 ⟨k⟩
theorem eV {Q G:Prop} {A0 A1 A2:Prop} (x0:A0) (x1:A1) (x2:A2) (k:Q) (h:A0 → A1 → A2 → Kq Q → G:=by
 intro kc1 kf1 kf2 k
 exact uu):G:=h x0 x1 x2 ⟨k⟩
theorem eW {Q G:Prop} {A0 A1:Prop} (x0:A0) (x1:A1) (k:Q) (h:A0 → A1 → Kq Q → G:=by
 intro kc1 km1 k
 exact uu):G:=h x0 x1 ⟨k⟩
theorem lM {Q G:Prop} {A0 A1 A2:Prop} (x0:A0) (x1:A1) (x2:A2) (k:Q) (h:A0 → A1 → A2 → Kq Q → G:=by
 intro kc1 km1 km2 k
 exact uu):G:=h x0 x1 x2 ⟨k⟩
theorem x8 {Q G:Prop} {A0 A1:Prop} (x0:A0) (x1:A1) (k:Q) (h:A0 → A1 → Kq Q → G:=by
 intro kc1 ko1 k
 exact uu):G:=h x0 x1 ⟨k⟩
theorem lN {Q G:Prop} {A0 A1 A2:Prop} (x0:A0) (x1:A1) (x2:A2) (k:Q) (h:A0 → A1 → A2 → Kq Q → G:=by
 intro kc1 ko1 ko2 k
 exact uu):G:=h x0 x1 x2 ⟨k⟩
theorem aL {Q G:Prop} {A0 A1:Prop} (x0:A0) (x1:A1) (k:Q) (h:A0 → A1 → Kq Q → G:=by
 intro kc1 kc2 k
 exact uu):G:=h x0 x1 ⟨k⟩
theorem Hc {Q G:Prop} {A0 A1 A2:Prop} (x0:A0) (x1:A1) (x2:A2) (k:Q) (h:A0 → A1 → A2 → Kq Q → G:=by
 intro kc1 kc2 km1 k
 exact uu):G:=h x0 x1 x2 ⟨k⟩
theorem eX {Q G:Prop} {A0 A1 A2:Prop} (x0:A0) (x1:A1) (x2:A2) (k:Q) (h:A0 → A1 → A2 → Kq Q → G:=by
 intro kc1 kc2 kc3 k
 exact uu):G:=h x0 x1 x2 ⟨k⟩
theorem rR {Q G:Prop} {A0 A1 A2 A3:Prop} (x0:A0) (x1:A1) (x2:A2) (x3:A3) (k:Q) (h:A0 → A1 → A2 → A3 → Kq Q → G:=by
 intro kc1 kc2 kc3 kc4 k
 exact uu):G:=h x0 x1 x2 x3 ⟨k⟩
theorem Hd {Q G:Prop} {A0 A1 A2 A3 A4 A5:Prop} (x0:A0) (x1:A1) (x2:A2) (x3:A3) (x4:A4) (x5:A5) (k:Q) (h:A0 → A1 → A2 → A3 → A4 → A5 → Kq Q → G:=by
 intro kc1 kc2 kc3 kc4 kf1 kf2 k
 exact uu):G:=h x0 x1 x2 x3 x4 x5 ⟨k⟩
theorem oB {Q G:Prop} {A0 A1 A2 A3 A4:Prop} (x0:A0) (x1:A1) (x2:A2) (x3:A3) (x4:A4) (k:Q) (h:A0 → A1 → A2 → A3 → A4 → Kq Q → G:=by
 intro kc1 kc2 kc3 kc4 kc5 k
 exact uu):G:=h x0 x1 x2 x3 x4 ⟨k⟩
theorem He {Q G:Prop} {A0 A1 A2 A3 A4 A5:Prop} (x0:A0) (x1:A1) (x2:A2) (x3:A3) (x4:A4) (x5:A5) (k:Q) (h:A0 → A1 → A2 → A3 → A4 → A5 → Kq Q → G:=by
 intro kc1 kc2 kc3 kc4 kc5 km1 k
 exact uu):G:=h x0 x1 x2 x3 x4 x5 ⟨k⟩
theorem MZ {Q G:Prop} {A0 A1 A2 A3 A4 A5:Prop} (x0:A0) (x1:A1) (x2:A2) (x3:A3) (x4:A4) (x5:A5) (k:Q) (h:A0 → A1 → A2 → A3 → A4 → A5 → Kq Q → G:=by
 intro kc1 kc2 kc3 kc4 kc5 kc6 k
 exact uu):G:=h x0 x1 x2 x3 x4 x5 ⟨k⟩
theorem Cx {Q G:Prop} {A0 A1 A2 A3 A4 A5 A6:Prop} (x0:A0) (x1:A1) (x2:A2) (x3:A3) (x4:A4) (x5:A5) (x6:A6) (k:Q) (h:A0 → A1 → A2 → A3 → A4 → A5 → A6 → Kq Q → G:=by
 intro kc1 kc2 kc3 kc4 kc5 kc6 kc7 k
 exact uu):G:=h x0 x1 x2 x3 x4 x5 x6 ⟨k⟩
theorem fB {Q G:Prop} {A0:Prop} (x0:A0) (k:Q) (h:A0 → Kq Q → G:=by
 intro km1 k
 exact uu):G:=h x0 ⟨k⟩
theorem lO {Q G:Prop} {A0 A1:Prop} (x0:A0) (x1:A1) (k:Q) (h:A0 → A1 → Kq Q → G:=by
 intro km1 km2 k
 exact uu):G:=h x0 x1 ⟨k⟩
theorem M0 {Q G:Prop} {A0:Prop} (x0:A0) (k:Q) (h:A0 → Kq Q → G:=by
 intro ko1 k
 exact uu):G:=h x0 ⟨k⟩
theorem AF {Q G:Prop} {A0:Prop} (x0:A0) (k:Q) (h:A0 → Kq Q → G:=by
 intro kc1 k
 exact lh):G:=h x0 ⟨k⟩
theorem eL {Q G:Prop} {A0:Prop} (x0:A0) (k:Q) (h:RowKit.Hid A0 → Kq Q → G:=by
 intro ke1 k
 exact lh):G:=h x0 ⟨k⟩
theorem bU {Q G:Prop} {A0 A1:Prop} (x0:A0) (x1:A1) (k:Q) (h:RowKit.Hid A0 → A1 → Kq Q → G:=by
 intro ke1 kc1 k
 exact lh):G:=h x0 x1 ⟨k⟩
theorem bi {Q G:Prop} {A0 A1 A2:Prop} (x0:A0) (x1:A1) (x2:A2) (k:Q) (h:RowKit.Hid A0 → A1 → A2 → Kq Q → G:=by
 intro ke1 kc1 kc2 k
 exact lh):G:=h x0 x1 x2 ⟨k⟩
theorem jW {Q G:Prop} {A0 A1 A2 A3:Prop} (x0:A0) (x1:A1) (x2:A2) (x3:A3) (k:Q) (h:RowKit.Hid A0 → A1 → A2 → A3 → Kq Q → G:=by
 intro ke1 kc1 kc2 kc3 k
 exact lh):G:=h x0 x1 x2 x3 ⟨k⟩
theorem fc {Q G:Prop} {A0 A1 A2 A3 A4:Prop} (x0:A0) (x1:A1) (x2:A2) (x3:A3) (x4:A4) (k:Q) (h:RowKit.Hid A0 → A1 → A2 → A3 → A4 → Kq Q → G:=by
 intro ke1 kc1 kc2 kc3 kc4 k
 exact lh):G:=h x0 x1 x2 x3 x4 ⟨k⟩
theorem mO {Q G:Prop} {A0 A1 A2 A3 A4 A5:Prop} (x0:A0) (x1:A1) (x2:A2) (x3:A3) (x4:A4) (x5:A5) (k:Q) (h:RowKit.Hid A0 → A1 → A2 → A3 → A4 → A5 → Kq Q → G:=by
 intro ke1 kc1 kc2 kc3 kc4 kc5 k
 exact lh):G:=h x0 x1 x2 x3 x4 x5 ⟨k⟩
theorem i5 {Q G:Prop} {A0 A1 A2:Prop} (x0:A0) (x1:A1) (x2:A2) (k:Q) (h:RowKit.Hid A0 → A1 → A2 → Kq Q → G:=by
 intro ke1 kf1 kf2 k
 exact lh):G:=h x0 x1 x2 ⟨k⟩
theorem mP {Q G:Prop} {A0 A1:Prop} (x0:A0) (x1:A1) (k:Q) (h:RowKit.Hid A0 → RowKit.Hid A1 → Kq Q → G:=by
 intro ke1 kh1 k
 exact lh):G:=h x0 x1 ⟨k⟩
theorem ga {Q G:Prop} {A0 A1:Prop} (x0:A0) (x1:A1) (k:Q) (h:RowKit.Hid A0 → A1 → Kq Q → G:=by
 intro ke1 km1 k
 exact lh):G:=h x0 x1 ⟨k⟩
theorem i6 {Q G:Prop} {A0 A1 A2:Prop} (x0:A0) (x1:A1) (x2:A2) (k:Q) (h:RowKit.Hid A0 → A1 → A2 → Kq Q → G:=by
 intro ke1 km1 km2 k
 exact lh):G:=h x0 x1 x2 ⟨k⟩
theorem uv {Q G:Prop} {A0 A1 A2 A3:Prop} (x0:A0) (x1:A1) (x2:A2) (x3:A3) (k:Q) (h:RowKit.Hid A0 → A1 → A2 → A3 → Kq Q → G:=by
 intro ke1 km1 km2 km3 k
 exact lh):G:=h x0 x1 x2 x3 ⟨k⟩
theorem rS {Q G:Prop} {A0 A1:Prop} (x0:A0) (x1:A1) (k:Q) (h:RowKit.Hid A0 → RowKit.Hid A1 → Kq Q → G:=by
 intro ke1 ke2 k
 exact lh):G:=h x0 x1 ⟨k⟩
theorem D8 {Q G:Prop} {A0 A1 A2:Prop} (x0:A0) (x1:A1) (x2:A2) (k:Q) (h:RowKit.Hid A0 → RowKit.Hid A1 → RowKit.Hid A2 → Kq Q → G:=by
 intro ke1 ke2 kh1 k
 exact lh):G:=h x0 x1 x2 ⟨k⟩
theorem uw {Q G:Prop} {A0 A1 A2:Prop} (x0:A0) (x1:A1) (x2:A2) (k:Q) (h:RowKit.Hid A0 → RowKit.Hid A1 → A2 → Kq Q → G:=by
 intro ke1 ke2 km1 k
 exact lh):G:=h x0 x1 x2 ⟨k⟩
theorem D9 {Q G:Prop} {A0 A1 A2 A3:Prop} (x0:A0) (x1:A1) (x2:A2) (x3:A3) (k:Q) (h:RowKit.Hid A0 → RowKit.Hid A1 → RowKit.Hid A2 → RowKit.Hid A3 → Kq Q → G:=by
 intro ke1 ke2 ke3 kh1 k
 exact lh):G:=h x0 x1 x2 x3 ⟨k⟩
theorem lP {Q G:Prop} {A0:Prop} (x0:A0) (k:Q) (h:RowKit.Hid A0 → Kq Q → G:=by
 intro kh1 k
 exact lh):G:=h x0 ⟨k⟩
end Go.Proofs.YtliiahjpiagdkaaGreat

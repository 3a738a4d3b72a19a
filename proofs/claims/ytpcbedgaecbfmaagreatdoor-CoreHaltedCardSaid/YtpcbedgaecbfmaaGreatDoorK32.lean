/- Steps that ask nothing of memory: residuals of their code. No condition. -/
import Derived.Test.YtpcbedgaecbfmaaGreatDoorK31
noncomputable section
namespace Go.Proofs.YtpcbedgaecbfmaaGreatDoor
set_option maxRecDepth 100000
open Go.Proofs.YtpcbedgaecbfmaaGreatDoor.Ev Go.RowKit
def w0:W16:=⟨0,0,0,0,0,0,0,0,0,0,0,0,0,0,0,0⟩
def r0 (r:W16):W16:={r with a0:=0}
def afT (t:List Value→Bool)(v:Value):AF:=fun args _=>some (t args,v)
def HDo (gg:C5 Bool)(gt:W16→Int→Int)(t:List Value→Bool)(q:W16):Hs:=hsOf [(35,afCd gg fun _ _ _ _ _=>.int .i64 0),(36,afGet gt),(38,afT t (w16V q))] [] []
theorem r_do1 (gl:Gl)(gg:C5 Bool)(gt:W16→Int→Int)(t:List Value→Bool)(q r:W16)(at_ a b c n:Int):evF gl (HDo gg gt t q) 12 [w16V r,.int .i64 at_,cdV 1 a b c n]=
 letI A:Value:=.tuple #[w16V w0,.int .i64 0,.int .i64 2]
 cond (gg 1 a b c n) (cond (decide (at_<0)) (some A) (cond (decide (at_>1024)) (some A) (qs [b,b,r.a1,r.a2,r.a3,r.a4,r.a5,r.a6,r.a7,r.a8,r.a9,r.a10,r.a11,r.a12,r.a13,r.a14,r.a15,r.a1,r.a2,r.a3,r.a4,r.a5,r.a6,r.a7,r.a8,r.a9,r.a10,r.a11,r.a12,r.a13,r.a14,r.a15,a,
 r.a1,r.a2,r.a3,r.a4,r.a5,r.a6,r.a7,r.a8,r.a9,r.a10,r.a11,r.a12,r.a13,r.a14,r.a15] (cond (t ([]++[w16V (r0 r),.int .i64 a,pack [.int .u32 (IntKind.u32.wrap (gt (r0 r) b+gt (r0 r) c))]]++[])) (qs [c,r.a1,r.a2,r.a3,r.a4,r.a5,r.a6,r.a7,r.a8,r.a9,r.a10,r.a11,r.a12,
 r.a13,r.a14,r.a15,a,a,a,r.a1,r.a2,r.a3,r.a4,r.a5,r.a6,r.a7,r.a8,r.a9,r.a10,r.a11,r.a12,r.a13,r.a14,r.a15,r.a1,r.a2,r.a3,r.a4,r.a5,r.a6,r.a7,r.a8,r.a9,r.a10,r.a11,r.a12,r.a13,r.a14,r.a15,r.a1,r.a2,r.a3,r.a4,r.a5,r.a6,r.a7,r.a8,r.a9,r.a10,r.a11,r.a12,
 r.a13,r.a14,r.a15] (some (.tuple #[.agg ⟨w16C q []⟩,.int .i64 (IntKind.i64.wrap (at_+1)),.int .i64 0]))) none)))) none:=by kernel_rfl
theorem r_do2 (gl:Gl)(gg:C5 Bool)(gt:W16→Int→Int)(t:List Value→Bool)(q r:W16)(at_ a b c n:Int):evF gl (HDo gg gt t q) 12 [w16V r,.int .i64 at_,cdV 2 a b c n]=
 letI A:Value:=.tuple #[w16V w0,.int .i64 0,.int .i64 2]
 cond (gg 2 a b c n) (cond (decide (at_<0)) (some A) (cond (decide (at_>1024)) (some A) (qs [b,b,r.a1,r.a2,r.a3,r.a4,r.a5,r.a6,r.a7,r.a8,r.a9,r.a10,r.a11,r.a12,r.a13,r.a14,r.a15,r.a1,r.a2,r.a3,r.a4,r.a5,r.a6,r.a7,r.a8,r.a9,r.a10,r.a11,r.a12,r.a13,r.a14,r.a15,a,
 r.a1,r.a2,r.a3,r.a4,r.a5,r.a6,r.a7,r.a8,r.a9,r.a10,r.a11,r.a12,r.a13,r.a14,r.a15] (cond (t ([]++[w16V (r0 r),.int .i64 a,pack [.int .u32 (IntKind.u32.wrap (gt (r0 r) b-gt (r0 r) c))]]++[])) (qs [c,r.a1,r.a2,r.a3,r.a4,r.a5,r.a6,r.a7,r.a8,r.a9,r.a10,r.a11,r.a12,
 r.a13,r.a14,r.a15,a,a,a,r.a1,r.a2,r.a3,r.a4,r.a5,r.a6,r.a7,r.a8,r.a9,r.a10,r.a11,r.a12,r.a13,r.a14,r.a15,r.a1,r.a2,r.a3,r.a4,r.a5,r.a6,r.a7,r.a8,r.a9,r.a10,r.a11,r.a12,r.a13,r.a14,r.a15,r.a1,r.a2,r.a3,r.a4,r.a5,r.a6,r.a7,r.a8,r.a9,r.a10,r.a11,r.a12,
 r.a13,r.a14,r.a15] (some (.tuple #[.agg ⟨w16C q []⟩,.int .i64 (IntKind.i64.wrap (at_+1)),.int .i64 0]))) none)))) none:=by kernel_rfl
theorem r_do3 (gl:Gl)(gg:C5 Bool)(gt:W16→Int→Int)(t:List Value→Bool)(q r:W16)(at_ a b c n:Int):evF gl (HDo gg gt t q) 12 [w16V r,.int .i64 at_,cdV 3 a b c n]=
 letI A:Value:=.tuple #[w16V w0,.int .i64 0,.int .i64 2]
 cond (gg 3 a b c n) (cond (decide (at_<0)) (some A) (cond (decide (at_>1024)) (some A) (qs [b,b,r.a1,r.a2,r.a3,r.a4,r.a5,r.a6,r.a7,r.a8,r.a9,r.a10,r.a11,r.a12,r.a13,r.a14,r.a15,r.a1,r.a2,r.a3,r.a4,r.a5,r.a6,r.a7,r.a8,r.a9,r.a10,r.a11,r.a12,r.a13,r.a14,r.a15,a,
 r.a1,r.a2,r.a3,r.a4,r.a5,r.a6,r.a7,r.a8,r.a9,r.a10,r.a11,r.a12,r.a13,r.a14,r.a15] (cond (t ([]++[w16V (r0 r),.int .i64 a,pack [.int .u32 (IntKind.u32.wrap (↑(BitVec.ofInt 32 (gt (r0 r) b)&&&BitVec.ofInt 32 (gt (r0 r) c)).toNat:Int))]]++[])) (qs [c,r.a1,r.a2,r.a3,r.a4,
 r.a5,r.a6,r.a7,r.a8,r.a9,r.a10,r.a11,r.a12,r.a13,r.a14,r.a15,a,a,a,r.a1,r.a2,r.a3,r.a4,r.a5,r.a6,r.a7,r.a8,r.a9,r.a10,r.a11,r.a12,r.a13,r.a14,r.a15,r.a1,r.a2,r.a3,r.a4,r.a5,r.a6,r.a7,r.a8,r.a9,r.a10,r.a11,r.a12,r.a13,r.a14,r.a15,r.a1,r.a2,r.a3,r.a4,
 r.a5,r.a6,r.a7,r.a8,r.a9,r.a10,r.a11,r.a12,r.a13,r.a14,r.a15] (some (.tuple #[.agg ⟨w16C q []⟩,.int .i64 (IntKind.i64.wrap (at_+1)),.int .i64 0]))) none)))) none:=by kernel_rfl
theorem r_do4 (gl:Gl)(gg:C5 Bool)(gt:W16→Int→Int)(t:List Value→Bool)(q r:W16)(at_ a b c n:Int):evF gl (HDo gg gt t q) 12 [w16V r,.int .i64 at_,cdV 4 a b c n]=
 letI A:Value:=.tuple #[w16V w0,.int .i64 0,.int .i64 2]
 cond (gg 4 a b c n) (cond (decide (at_<0)) (some A) (cond (decide (at_>1024)) (some A) (qs [b,b,r.a1,r.a2,r.a3,r.a4,r.a5,r.a6,r.a7,r.a8,r.a9,r.a10,r.a11,r.a12,r.a13,r.a14,r.a15,r.a1,r.a2,r.a3,r.a4,r.a5,r.a6,r.a7,r.a8,r.a9,r.a10,r.a11,r.a12,r.a13,r.a14,r.a15,a,
 r.a1,r.a2,r.a3,r.a4,r.a5,r.a6,r.a7,r.a8,r.a9,r.a10,r.a11,r.a12,r.a13,r.a14,r.a15] (cond (t ([]++[w16V (r0 r),.int .i64 a,pack [.int .u32 (IntKind.u32.wrap (↑(BitVec.ofInt 32 (gt (r0 r) b)|||BitVec.ofInt 32 (gt (r0 r) c)).toNat:Int))]]++[])) (qs [c,r.a1,r.a2,r.a3,r.a4,
 r.a5,r.a6,r.a7,r.a8,r.a9,r.a10,r.a11,r.a12,r.a13,r.a14,r.a15,a,a,a,r.a1,r.a2,r.a3,r.a4,r.a5,r.a6,r.a7,r.a8,r.a9,r.a10,r.a11,r.a12,r.a13,r.a14,r.a15,r.a1,r.a2,r.a3,r.a4,r.a5,r.a6,r.a7,r.a8,r.a9,r.a10,r.a11,r.a12,r.a13,r.a14,r.a15,r.a1,r.a2,r.a3,r.a4,
 r.a5,r.a6,r.a7,r.a8,r.a9,r.a10,r.a11,r.a12,r.a13,r.a14,r.a15] (some (.tuple #[.agg ⟨w16C q []⟩,.int .i64 (IntKind.i64.wrap (at_+1)),.int .i64 0]))) none)))) none:=by kernel_rfl
theorem r_do5 (gl:Gl)(gg:C5 Bool)(gt:W16→Int→Int)(t:List Value→Bool)(q r:W16)(at_ a b c n:Int):evF gl (HDo gg gt t q) 12 [w16V r,.int .i64 at_,cdV 5 a b c n]=
 letI A:Value:=.tuple #[w16V w0,.int .i64 0,.int .i64 2]
 cond (gg 5 a b c n) (cond (decide (at_<0)) (some A) (cond (decide (at_>1024)) (some A) (qs [b,b,r.a1,r.a2,r.a3,r.a4,r.a5,r.a6,r.a7,r.a8,r.a9,r.a10,r.a11,r.a12,r.a13,r.a14,r.a15,r.a1,r.a2,r.a3,r.a4,r.a5,r.a6,r.a7,r.a8,r.a9,r.a10,r.a11,r.a12,r.a13,r.a14,r.a15,a,
 r.a1,r.a2,r.a3,r.a4,r.a5,r.a6,r.a7,r.a8,r.a9,r.a10,r.a11,r.a12,r.a13,r.a14,r.a15] (cond (t ([]++[w16V (r0 r),.int .i64 a,pack [.int .u32 (IntKind.u32.wrap (↑(BitVec.ofInt 32 (gt (r0 r) b)^^^BitVec.ofInt 32 (gt (r0 r) c)).toNat:Int))]]++[])) (qs [c,r.a1,r.a2,r.a3,r.a4,
 r.a5,r.a6,r.a7,r.a8,r.a9,r.a10,r.a11,r.a12,r.a13,r.a14,r.a15,a,a,a,r.a1,r.a2,r.a3,r.a4,r.a5,r.a6,r.a7,r.a8,r.a9,r.a10,r.a11,r.a12,r.a13,r.a14,r.a15,r.a1,r.a2,r.a3,r.a4,r.a5,r.a6,r.a7,r.a8,r.a9,r.a10,r.a11,r.a12,r.a13,r.a14,r.a15,r.a1,r.a2,r.a3,r.a4,
 r.a5,r.a6,r.a7,r.a8,r.a9,r.a10,r.a11,r.a12,r.a13,r.a14,r.a15] (some (.tuple #[.agg ⟨w16C q []⟩,.int .i64 (IntKind.i64.wrap (at_+1)),.int .i64 0]))) none)))) none:=by kernel_rfl
theorem r_do6 (gl:Gl)(gg:C5 Bool)(gt:W16→Int→Int)(t:List Value→Bool)(q r:W16)(at_ a b c n:Int):evF gl (HDo gg gt t q) 12 [w16V r,.int .i64 at_,cdV 6 a b c n]=
 letI A:Option Value:=qs [c,r.a1,r.a2,r.a3,r.a4,r.a5,r.a6,r.a7,r.a8,r.a9,r.a10,r.a11,r.a12,r.a13,r.a14,r.a15,a,a,a,r.a1,r.a2,r.a3,r.a4,r.a5,r.a6,r.a7,r.a8,r.a9,r.a10,r.a11,r.a12,r.a13,r.a14,r.a15,r.a1,r.a2,r.a3,r.a4,r.a5,r.a6,r.a7,r.a8,r.a9,r.a10,r.a11,r.a12,r.a13,r.a14,r.a15,r.a1,r.a2,r.a3,r.a4,r.a5,r.a6,r.a7,r.a8,r.a9,r.a10,r.a11,r.a12,r.a13,r.a14,r.a15] (some (.tuple #[.agg ⟨w16C q []⟩,.int .i64 (IntKind.i64.wrap (at_+1)),.int .i64 0]))
 letI B:Value:=.tuple #[w16V w0,.int .i64 0,.int .i64 2]
 cond (gg 6 a b c n) (cond (decide (at_<0)) (some B) (cond (decide (at_>1024)) (some B) (qs [b,b,r.a1,r.a2,r.a3,r.a4,r.a5,r.a6,r.a7,r.a8,r.a9,r.a10,r.a11,r.a12,r.a13,r.a14,r.a15,r.a1,r.a2,r.a3,r.a4,r.a5,r.a6,r.a7,r.a8,r.a9,r.a10,r.a11,r.a12,r.a13,r.a14,r.a15,a,
 r.a1,r.a2,r.a3,r.a4,r.a5,r.a6,r.a7,r.a8,r.a9,r.a10,r.a11,r.a12,r.a13,r.a14,r.a15] (cond (decide (gt (r0 r) b<gt (r0 r) c)) (cond (t ([]++[w16V (r0 r),.int .i64 a,pack [.int .u32 1]]++[])) A none) (cond (t ([]++[w16V (r0 r),.int .i64 a,pack [.int .u32 0]]++[])) A
 none))))) none:=by kernel_rfl
theorem r_do7 (gl:Gl)(gg:C5 Bool)(gt:W16→Int→Int)(t:List Value→Bool)(q r:W16)(at_ a b c n:Int):evF gl (HDo gg gt t q) 12 [w16V r,.int .i64 at_,cdV 7 a b c n]=
 letI A:Value:=.tuple #[w16V w0,.int .i64 0,.int .i64 2]
 cond (gg 7 a b c n) (cond (decide (at_<0)) (some A) (cond (decide (at_>1024)) (some A) (qs [b,b,r.a1,r.a2,r.a3,r.a4,r.a5,r.a6,r.a7,r.a8,r.a9,r.a10,r.a11,r.a12,r.a13,r.a14,r.a15,r.a1,r.a2,r.a3,r.a4,r.a5,r.a6,r.a7,r.a8,r.a9,r.a10,r.a11,r.a12,r.a13,r.a14,r.a15,a,
 r.a1,r.a2,r.a3,r.a4,r.a5,r.a6,r.a7,r.a8,r.a9,r.a10,r.a11,r.a12,r.a13,r.a14,r.a15] (cond (t ([]++[w16V (r0 r),.int .i64 a,pack [.int .u32 (IntKind.u32.wrap (gt (r0 r) b*gt (r0 r) c))]]++[])) (qs [c,r.a1,r.a2,r.a3,r.a4,r.a5,r.a6,r.a7,r.a8,r.a9,r.a10,r.a11,r.a12,
 r.a13,r.a14,r.a15,a,a,a,r.a1,r.a2,r.a3,r.a4,r.a5,r.a6,r.a7,r.a8,r.a9,r.a10,r.a11,r.a12,r.a13,r.a14,r.a15,r.a1,r.a2,r.a3,r.a4,r.a5,r.a6,r.a7,r.a8,r.a9,r.a10,r.a11,r.a12,r.a13,r.a14,r.a15,r.a1,r.a2,r.a3,r.a4,r.a5,r.a6,r.a7,r.a8,r.a9,r.a10,r.a11,r.a12,
 r.a13,r.a14,r.a15] (some (.tuple #[.agg ⟨w16C q []⟩,.int .i64 (IntKind.i64.wrap (at_+1)),.int .i64 0]))) none)))) none:=by kernel_rfl
theorem r_do8 (gl:Gl)(gg:C5 Bool)(gt:W16→Int→Int)(t:List Value→Bool)(q r:W16)(at_ a b c n:Int):evF gl (HDo gg gt t q) 12 [w16V r,.int .i64 at_,cdV 8 a b c n]=
 letI A:Value:=.tuple #[w16V w0,.int .i64 0,.int .i64 2]
 cond (gg 8 a b c n) (cond (decide (at_<0)) (some A) (cond (decide (at_>1024)) (some A) (qs [b,b,r.a1,r.a2,r.a3,r.a4,r.a5,r.a6,r.a7,r.a8,r.a9,r.a10,r.a11,r.a12,r.a13,r.a14,r.a15,r.a1,r.a2,r.a3,r.a4,r.a5,r.a6,r.a7,r.a8,r.a9,r.a10,r.a11,r.a12,r.a13,r.a14,r.a15,a,
 r.a1,r.a2,r.a3,r.a4,r.a5,r.a6,r.a7,r.a8,r.a9,r.a10,r.a11,r.a12,r.a13,r.a14,r.a15] (cond (t ([]++[w16V (r0 r),.int .i64 a,.int .u32 (IntKind.u32.wrap (gt (r0 r) b+IntKind.u32.wrap n))]++[])) (some (.tuple #[.agg ⟨w16C q []⟩,.int .i64 (IntKind.i64.wrap (at_+1)),.int .i64
 0])) none)))) none:=by kernel_rfl
theorem r_do12 (gl:Gl)(gg:C5 Bool)(gt:W16→Int→Int)(t:List Value→Bool)(q r:W16)(at_ a b c n:Int):evF gl (HDo gg gt t q) 12 [w16V r,.int .i64 at_,cdV 12 a b c n]=
 letI A:Value:=.tuple #[w16V w0,.int .i64 0,.int .i64 2]
 cond (gg 12 a b c n) (cond (decide (at_<0)) (some A) (cond (decide (at_>1024)) (some A) (qs [b,b,r.a1,r.a2,r.a3,r.a4,r.a5,r.a6,r.a7,r.a8,r.a9,r.a10,r.a11,r.a12,r.a13,r.a14,r.a15,r.a1,r.a2,r.a3,r.a4,r.a5,r.a6,r.a7,r.a8,r.a9,r.a10,r.a11,r.a12,r.a13,r.a14,r.a15,a,
 r.a1,r.a2,r.a3,r.a4,r.a5,r.a6,r.a7,r.a8,r.a9,r.a10,r.a11,r.a12,r.a13,r.a14,r.a15] (cond (t ([]++[w16V (r0 r),.int .i64 a,.int .u32 (IntKind.u32.wrap n)]++[])) (some (.tuple #[.agg ⟨w16C q []⟩,.int .i64 (IntKind.i64.wrap (at_+1)),.int .i64 0])) none)))) none:=by kernel_rfl
theorem r_do13 (gl:Gl)(gg:C5 Bool)(gt:W16→Int→Int)(t:List Value→Bool)(q r:W16)(at_ a b c n:Int):evF gl (HDo gg gt t q) 12 [w16V r,.int .i64 at_,cdV 13 a b c n]=
 letI A:Value:=.tuple #[w16V w0,.int .i64 0,.int .i64 2]
 cond (gg 13 a b c n) (cond (decide (at_<0)) (some A) (cond (decide (at_>1024)) (some A) (qs [b,b,r.a1,r.a2,r.a3,r.a4,r.a5,r.a6,r.a7,r.a8,r.a9,r.a10,r.a11,r.a12,r.a13,r.a14,r.a15,r.a1,r.a2,r.a3,r.a4,r.a5,r.a6,r.a7,r.a8,r.a9,r.a10,r.a11,r.a12,r.a13,r.a14,r.a15,a,
 r.a1,r.a2,r.a3,r.a4,r.a5,r.a6,r.a7,r.a8,r.a9,r.a10,r.a11,r.a12,r.a13,r.a14,r.a15] (cond (gt (r0 r) a==gt (r0 r) b) (some (.tuple #[.agg #[.int .u32 0,.int .u32 r.a1,.int .u32 r.a2,.int .u32 r.a3,.int .u32 r.a4,.int .u32 r.a5,.int .u32 r.a6,.int .u32 r.a7,.int .u32 r.a8,.int
 .u32 r.a9,.int .u32 r.a10,.int .u32 r.a11,.int .u32 r.a12,.int .u32 r.a13,.int .u32 r.a14,.int .u32 r.a15],.int .i64 (IntKind.i64.wrap (IntKind.i64.wrap (at_+n)+1)),.int .i64 0])) (some (.tuple #[.agg #[.int .u32 0,.int .u32 r.a1,.int .u32 r.a2,.int .u32 r.a3,.int .u32 r.a4,.int
 .u32 r.a5,.int .u32 r.a6,.int .u32 r.a7,.int .u32 r.a8,.int .u32 r.a9,.int .u32 r.a10,.int .u32 r.a11,.int .u32 r.a12,.int .u32 r.a13,.int .u32 r.a14,.int .u32 r.a15],.int .i64 (IntKind.i64.wrap (at_+1)),.int .i64 0])))))) none:=by kernel_rfl
theorem r_do14 (gl:Gl)(gg:C5 Bool)(gt:W16→Int→Int)(t:List Value→Bool)(q r:W16)(at_ a b c n:Int):evF gl (HDo gg gt t q) 12 [w16V r,.int .i64 at_,cdV 14 a b c n]=
 letI A:Value:=.tuple #[w16V w0,.int .i64 0,.int .i64 2]
 cond (gg 14 a b c n) (cond (decide (at_<0)) (some A) (cond (decide (at_>1024)) (some A) (qs [b,b,r.a1,r.a2,r.a3,r.a4,r.a5,r.a6,r.a7,r.a8,r.a9,r.a10,r.a11,r.a12,r.a13,r.a14,r.a15,r.a1,r.a2,r.a3,r.a4,r.a5,r.a6,r.a7,r.a8,r.a9,r.a10,r.a11,r.a12,r.a13,r.a14,r.a15,a,
 r.a1,r.a2,r.a3,r.a4,r.a5,r.a6,r.a7,r.a8,r.a9,r.a10,r.a11,r.a12,r.a13,r.a14,r.a15] (cond (gt (r0 r) a !=gt (r0 r) b) (some (.tuple #[.agg #[.int .u32 0,.int .u32 r.a1,.int .u32 r.a2,.int .u32 r.a3,.int .u32 r.a4,.int .u32 r.a5,.int .u32 r.a6,.int .u32 r.a7,.int .u32 r.a8,.int
 .u32 r.a9,.int .u32 r.a10,.int .u32 r.a11,.int .u32 r.a12,.int .u32 r.a13,.int .u32 r.a14,.int .u32 r.a15],.int .i64 (IntKind.i64.wrap (IntKind.i64.wrap (at_+n)+1)),.int .i64 0])) (some (.tuple #[.agg #[.int .u32 0,.int .u32 r.a1,.int .u32 r.a2,.int .u32 r.a3,.int .u32 r.a4,.int
 .u32 r.a5,.int .u32 r.a6,.int .u32 r.a7,.int .u32 r.a8,.int .u32 r.a9,.int .u32 r.a10,.int .u32 r.a11,.int .u32 r.a12,.int .u32 r.a13,.int .u32 r.a14,.int .u32 r.a15],.int .i64 (IntKind.i64.wrap (at_+1)),.int .i64 0])))))) none:=by kernel_rfl
theorem r_do15 (gl:Gl)(gg:C5 Bool)(gt:W16→Int→Int)(t:List Value→Bool)(q r:W16)(at_ a b c n:Int):evF gl (HDo gg gt t q) 12 [w16V r,.int .i64 at_,cdV 15 a b c n]=
 letI A:Value:=.tuple #[w16V w0,.int .i64 0,.int .i64 2]
 cond (gg 15 a b c n) (cond (decide (at_<0)) (some A) (cond (decide (at_>1024)) (some A) (qs [b,b,r.a1,r.a2,r.a3,r.a4,r.a5,r.a6,r.a7,r.a8,r.a9,r.a10,r.a11,r.a12,r.a13,r.a14,r.a15,r.a1,r.a2,r.a3,r.a4,r.a5,r.a6,r.a7,r.a8,r.a9,r.a10,r.a11,r.a12,r.a13,r.a14,r.a15,a,
 r.a1,r.a2,r.a3,r.a4,r.a5,r.a6,r.a7,r.a8,r.a9,r.a10,r.a11,r.a12,r.a13,r.a14,r.a15] (cond (decide (gt (r0 r) a<gt (r0 r) b)) (some (.tuple #[.agg #[.int .u32 0,.int .u32 r.a1,.int .u32 r.a2,.int .u32 r.a3,.int .u32 r.a4,.int .u32 r.a5,.int .u32 r.a6,.int .u32 r.a7,.int .u32
 r.a8,.int .u32 r.a9,.int .u32 r.a10,.int .u32 r.a11,.int .u32 r.a12,.int .u32 r.a13,.int .u32 r.a14,.int .u32 r.a15],.int .i64 (IntKind.i64.wrap (IntKind.i64.wrap (at_+n)+1)),.int .i64 0])) (some (.tuple #[.agg #[.int .u32 0,.int .u32 r.a1,.int .u32 r.a2,.int .u32 r.a3,.int .u32
 r.a4,.int .u32 r.a5,.int .u32 r.a6,.int .u32 r.a7,.int .u32 r.a8,.int .u32 r.a9,.int .u32 r.a10,.int .u32 r.a11,.int .u32 r.a12,.int .u32 r.a13,.int .u32 r.a14,.int .u32 r.a15],.int .i64 (IntKind.i64.wrap (at_+1)),.int .i64 0])))))) none:=by kernel_rfl
theorem r_do16 (gl:Gl)(gg:C5 Bool)(gt:W16→Int→Int)(t:List Value→Bool)(q r:W16)(at_ a b c n:Int):evF gl (HDo gg gt t q) 12 [w16V r,.int .i64 at_,cdV 16 a b c n]=
 letI A:Value:=.tuple #[w16V w0,.int .i64 0,.int .i64 2]
 cond (gg 16 a b c n) (cond (decide (at_<0)) (some A) (cond (decide (at_>1024)) (some A) (qs [b,b,r.a1,r.a2,r.a3,r.a4,r.a5,r.a6,r.a7,r.a8,r.a9,r.a10,r.a11,r.a12,r.a13,r.a14,r.a15,r.a1,r.a2,r.a3,r.a4,r.a5,r.a6,r.a7,r.a8,r.a9,r.a10,r.a11,r.a12,r.a13,r.a14,r.a15,a,
 r.a1,r.a2,r.a3,r.a4,r.a5,r.a6,r.a7,r.a8,r.a9,r.a10,r.a11,r.a12,r.a13,r.a14,r.a15] (some (.tuple #[.agg #[.int .u32 0,.int .u32 r.a1,.int .u32 r.a2,.int .u32 r.a3,.int .u32 r.a4,.int .u32 r.a5,.int .u32 r.a6,.int .u32 r.a7,.int .u32 r.a8,.int .u32 r.a9,.int .u32 r.a10,.int
 .u32 r.a11,.int .u32 r.a12,.int .u32 r.a13,.int .u32 r.a14,.int .u32 r.a15],.int .i64 (IntKind.i64.wrap (IntKind.i64.wrap (at_+n)+1)),.int .i64 0]))))) none:=by kernel_rfl
theorem r_do21 (gl:Gl)(gg:C5 Bool)(gt:W16→Int→Int)(t:List Value→Bool)(q r:W16)(at_ a b c n:Int):evF gl (HDo gg gt t q) 12 [w16V r,.int .i64 at_,cdV 21 a b c n]=
 letI A:Value:=.tuple #[w16V w0,.int .i64 0,.int .i64 2]
 cond (gg 21 a b c n) (cond (decide (at_<0)) (some A) (cond (decide (at_>1024)) (some A) (qs [b,b,r.a1,r.a2,r.a3,r.a4,r.a5,r.a6,r.a7,r.a8,r.a9,r.a10,r.a11,r.a12,r.a13,r.a14,r.a15,r.a1,r.a2,r.a3,r.a4,r.a5,r.a6,r.a7,r.a8,r.a9,r.a10,r.a11,r.a12,r.a13,r.a14,r.a15,a,
 r.a1,r.a2,r.a3,r.a4,r.a5,r.a6,r.a7,r.a8,r.a9,r.a10,r.a11,r.a12,r.a13,r.a14,r.a15] (some (.tuple #[.agg #[.int .u32 0,.int .u32 r.a1,.int .u32 r.a2,.int .u32 r.a3,.int .u32 r.a4,.int .u32 r.a5,.int .u32 r.a6,.int .u32 r.a7,.int .u32 r.a8,.int .u32 r.a9,.int .u32 r.a10,.int
 .u32 r.a11,.int .u32 r.a12,.int .u32 r.a13,.int .u32 r.a14,.int .u32 r.a15],.int .i64 (IntKind.i64.wrap (at_+1)),.int .i64 0]))))) none:=by kernel_rfl
end Go.Proofs.YtpcbedgaecbfmaaGreatDoor
